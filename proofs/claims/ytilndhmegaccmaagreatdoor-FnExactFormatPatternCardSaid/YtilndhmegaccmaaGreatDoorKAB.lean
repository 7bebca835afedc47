/-
  Lemmas and contracts of functions: Contracts of the two functions NameValid (the program's and the reference's). Conditions: none. l1Ctor of the reference: a constructor within the limits. Conditions: none. l1Big, l1Data: names of data types. Conditions: none. What a valid world is, in plain Lean: one walk over the data types with the names met so far. Conditions: none. What a valid type is. Conditions: none. What a valid world gives: bounds on its parts. Conditions: none. Parsing of worlds, in plain Lean, as the reference has it. Conditions: none. Texts of worlds, in plain Lean, as the reference has them; the fixed texts are those of valid worlds. Conditions: none. Texts split at a byte: plain laws. Conditions: none. A byte as a text; texts behind one another. Conditions: none. Texts as the reference writes them: plain laws, and the text of a digit. Conditions: the world is valid. The texts of worlds, written by strings.Join: plain laws. Conditions: none. Slices of types that a call makes. Conditions: none. argTypes of the program. Conditions: the constructor is one of the world. l1Args of the reference. Conditions: the constructor is one of the world. ctorsOf of the program: the constructors that can make values of a type. Conditions: the type lies in the world, the world is not too large. l1Twice of the reference: a name stands before. Conditions: the place lies in the world. What a valid world is, step by step, in plain Lean. Conditions: none. WorldValid of the reference. Conditions: none. ctorOk of the program: a constructor within the limits, by slices.ContainsFunc and a closure. Conditions: none. A look-up in a map whose elements are booleans, as an equation. Conditions: none. WorldValid of the program, with its two maps. Conditions: none. TypeValid of the reference and of the program. Conditions: none.
-/
import Derived.Test.YtilndhmegaccmaaGreatDoorKAA
import Derived.Test.YtilndhmegaccmaaGreatDoorChecked
import Derived.Deep.RegionWith
import Derived.Deep.RegionHeld3
import Derived.Laws.BytesArg
import Derived.Deep.QuietTactic
import Derived.BigQuiet
import Derived.Lib.Join
import Derived.Laws.EntriesVeiled
import Derived.Maps.OwnOps
import Derived.Maps.Views
import Derived.Maps.Own
import Derived.StringKeys

set_option linter.unusedVariables false
set_option linter.unusedSimpArgs false

namespace Go.Proofs.YtilndhmegaccmaaGreatDoor
open Go.RowKit

/-- what the walk meets of a name -/
theorem bytes_cons (s : ByteArray) (h : 0 < s.size) : s.data.toList = s[0] :: s.data.toList.drop 1 := by
  rw [show s[0] = s.data.toList[0]'(by simpa using h) from rfl, List.getElem_cons_drop]; rfl
theorem take_snoc (s : ByteArray) (k : Nat) (h : k < s.size) : s.data.toList.take (k + 1) = s.data.toList.take k ++ [s[k]] := by
  rw [List.take_succ_eq_append_getElem (by simpa using h)]; rfl
theorem nameOk_false_len (s : ByteArray) (h : s.size = 0 ∨ 5 < s.size) : nameOk s.data.toList = false := by
  rcases h with h | h
  · rw [show s.data.toList = [] from List.eq_nil_of_length_eq_zero (by simpa using h)]; rfl
  · rw [bytes_cons s (by omega), nameOk_cons]
    have : decide ((s.data.toList.drop 1).length ≤ 4) = false := decide_eq_false (by simp; omega)
    rw [this]; rfl
theorem nameOk_false_head (s : ByteArray) (h0 : 0 < s.size) (h : (s[0].toNat : Int) < 65 ∨ (90 : Int) < (s[0].toNat : Int)) : nameOk s.data.toList = false := by
  rw [bytes_cons s h0, nameOk_cons]
  have h2 : (decide (65 ≤ s[0].toNat) && decide (s[0].toNat ≤ 90)) = false := by simp; omega
  rw [h2]; simp
theorem lower_false_at (l : List UInt8) (k : Nat) (hk : k < l.length) (h : (l[k].toNat : Int) < 97 ∨ (122 : Int) < (l[k].toNat : Int)) : lowerAll l = false := by
  have : l[k] ∈ l := List.getElem_mem hk
  unfold lowerAll
  rw [List.all_eq_false]
  refine ⟨_, this, ?_⟩
  simp [UInt8.le_iff_toNat_le]
  omega
theorem nameOk_false_at (s : ByteArray) (k : Nat) (h1 : 1 ≤ k) (hk : k < s.size) (h : (s[k].toNat : Int) < 97 ∨ (122 : Int) < (s[k].toNat : Int)) : nameOk s.data.toList = false := by
  rw [bytes_cons s (by omega), nameOk_cons]
  have : lowerAll (s.data.toList.drop 1) = false := lower_false_at _ (k - 1) (by simp; omega) (by
    have e : (s.data.toList.drop 1)[k - 1]'(by simp; omega) = s[k] := by
      rw [List.getElem_drop]
      show s.data.toList[1 + (k - 1)]'_ = s.data.toList[k]'_
      congr 1; omega
    rw [e]; exact h)
  rw [this]; simp
theorem nameOk_true (s : ByteArray) (h0 : 0 < s.size) (h5 : s.size ≤ 5) (ha : 65 ≤ (s[0].toNat : Int)) (hz : (s[0].toNat : Int) ≤ 90) (h : ∀ k (hk : k < s.size), 1 ≤ k → 97 ≤ (s[k].toNat : Int) ∧ (s[k].toNat : Int) ≤ 122) : nameOk s.data.toList = true := by
  rw [bytes_cons s h0, nameOk_cons]
  have hl : lowerAll (s.data.toList.drop 1) = true := by
    unfold lowerAll
    rw [List.all_eq_true]
    intro c hc
    obtain ⟨k, hk, rfl⟩ := List.getElem_of_mem hc
    have hk' : 1 + k < s.size := by simp at hk; omega
    have := h (1 + k) hk' (by omega)
    have e : (s.data.toList.drop 1)[k] = s[1 + k] := by rw [List.getElem_drop]; rfl
    rw [e]
    simp [UInt8.le_iff_toNat_le]
    omega
  rw [hl, decide_eq_true (show (s.data.toList.drop 1).length ≤ 4 by simp; omega), decide_eq_true (show 65 ≤ s[0].toNat by omega), decide_eq_true (show s[0].toNat ≤ 90 by omega)]; rfl

set_option maxHeartbeats 1000000 in
theorem spec_NameValid (s : ByteArray) (w : World) (hs : s.size ≤ maxLen) :
    Calls Tryz.prog 77 #[.string s] w fun e w' => e = .returned (.bool (nameOk s.data.toList)) ∧ w = w' := by
  unfold maxLen at hs
  by_cases h0 : s.size = 0
  · have hf := Lib.hid (nameOk_false_len s (.inl h0))
    have e0 : ((s.size : Int) == 0) = true := beq_iff_eq.2 (by omega)
    have e1 : (s.size : Int) < 1 := by omega
    clear h0
    go_enter Tryz.func77, Tryz.ntmps77
    go_wp2
    go_ret
    exact ⟨ret_bool hf.out.symm, rfl⟩
  · have e0 : ((s.size : Int) == 0) = false := beq_eq_false_iff_ne.2 (by omega)
    have e1 : 1 ≤ (s.size : Int) := by omega
    by_cases h5 : 5 < s.size
    · have hf := Lib.hid (nameOk_false_len s (.inr h5))
      have e5 : (5 : Int) < (s.size : Int) := by omega
      go_enter Tryz.func77, Tryz.ntmps77
      go_wp2
      go_ret
      exact ⟨ret_bool hf.out.symm, rfl⟩
    · have p0 : 0 < s.size := by omega
      have p0' : (0 : Int) < (s.size : Int) := by omega
      have e5 : (s.size : Int) ≤ 5 := by omega
      by_cases ha : (s[0].toNat : Int) < 65
      · have hf := Lib.hid (nameOk_false_head s p0 (.inl ha))
        go_enter Tryz.func77, Tryz.ntmps77
        go_wp2
        go_ret
        exact ⟨ret_bool hf.out.symm, rfl⟩
      · have ha1 : 65 ≤ (s[0].toNat : Int) := by omega
        clear ha
        by_cases ha : (90 : Int) < (s[0].toNat : Int)
        · have hf := Lib.hid (nameOk_false_head s p0 (.inr ha))
          have hd : decide ((s[0].toNat : Int) ≤ 90) = false := decide_eq_false (by omega)
          go_enter Tryz.func77, Tryz.ntmps77
          go_wp2
          go_ret
          exact ⟨ret_bool hf.out.symm, rfl⟩
        · have ha2 : (s[0].toNat : Int) ≤ 90 := by omega
          clear ha
          go_enter Tryz.func77, Tryz.ntmps77
          go_wp2
          go_loop [3] (fun i => ∃ k : Nat, 1 ≤ k ∧ k ≤ s.size ∧ i = .int .i64 k ∧ Hid (∀ j (hj : j < s.size), 1 ≤ j → j < k → 97 ≤ (s[j].toNat : Int) ∧ (s[j].toNat : Int) ≤ 122)) (fun i => s.size - (intOf i).toNat)
          case atStart => exact ⟨1, Nat.le_refl _, by omega, rfl, fun j _ _ _ => by omega⟩
          case round =>
            obtain ⟨k, hk1, hk, rfl, HA⟩ := hrel
            by_cases hlt : k < s.size
            · by_cases hc : (s[k].toNat : Int) < 97
              · have hf := Lib.hid (nameOk_false_at s k hk1 hlt (.inl hc))
                go_wp2
                go_ret
                exact ⟨ret_bool hf.out.symm, rfl⟩
              · have hc1 : 97 ≤ (s[k].toNat : Int) := by omega
                clear hc
                by_cases hc : (122 : Int) < (s[k].toNat : Int)
                · have hf := Lib.hid (nameOk_false_at s k hk1 hlt (.inr hc))
                  go_wp2
                  go_ret
                  exact ⟨ret_bool hf.out.symm, rfl⟩
                · have hc2 : (s[k].toNat : Int) ≤ 122 := by omega
                  clear hc
                  go_wp2
                  go_round
                  case rel => exact ⟨k + 1, by omega, by omega, by go_num, fun j hj h1 h2 => by
                    rcases Nat.lt_or_ge j k with h | h
                    · exact HA.out j hj h1 h
                    · obtain rfl : j = k := by omega
                      exact ⟨hc1, hc2⟩⟩
                  case measure => simp [intOf]; omega
            · have hf := Lib.hid (nameOk_true s p0 (by omega) ha1 ha2 (fun j hj h1 => HA.out j hj h1 (by omega)))
              go_wp2
              go_ret
              exact ⟨ret_bool hf.out.symm, rfl⟩

set_option maxHeartbeats 1000000 in
theorem impl_NameValid (s : ByteArray) (w : World) (hs : s.size ≤ maxLen) :
    Calls Tryz.prog 81 #[.string s] w fun e w' => e = .returned (.bool (nameOk s.data.toList)) ∧ w = w' := by
  unfold maxLen at hs
  by_cases h0 : s.size = 0
  · have hf := Lib.hid (nameOk_false_len s (.inl h0))
    have e0 : ((s.size : Int) == 0) = true := beq_iff_eq.2 (by omega)
    have e1 : (s.size : Int) < 1 := by omega
    clear h0
    go_enter Tryz.func81, Tryz.ntmps81
    go_wp2
    go_ret
    exact ⟨ret_bool hf.out.symm, rfl⟩
  · have e0 : ((s.size : Int) == 0) = false := beq_eq_false_iff_ne.2 (by omega)
    have e1 : 1 ≤ (s.size : Int) := by omega
    by_cases h5 : 5 < s.size
    · have hf := Lib.hid (nameOk_false_len s (.inr h5))
      have e5 : (5 : Int) < (s.size : Int) := by omega
      go_enter Tryz.func81, Tryz.ntmps81
      go_wp2
      go_ret
      exact ⟨ret_bool hf.out.symm, rfl⟩
    · have p0 : 0 < s.size := by omega
      have p0' : (0 : Int) < (s.size : Int) := by omega
      have e5 : (s.size : Int) ≤ 5 := by omega
      by_cases ha : (s[0].toNat : Int) < 65
      · have hf := Lib.hid (nameOk_false_head s p0 (.inl ha))
        go_enter Tryz.func81, Tryz.ntmps81
        go_wp2
        go_ret
        exact ⟨ret_bool hf.out.symm, rfl⟩
      · have ha1 : 65 ≤ (s[0].toNat : Int) := by omega
        clear ha
        by_cases ha : (90 : Int) < (s[0].toNat : Int)
        · have hf := Lib.hid (nameOk_false_head s p0 (.inr ha))
          have hd : decide ((s[0].toNat : Int) ≤ 90) = false := decide_eq_false (by omega)
          go_enter Tryz.func81, Tryz.ntmps81
          go_wp2
          go_ret
          exact ⟨ret_bool hf.out.symm, rfl⟩
        · have ha2 : (s[0].toNat : Int) ≤ 90 := by omega
          clear ha
          go_enter Tryz.func81, Tryz.ntmps81
          go_wp2
          go_loop [3] (fun i => ∃ k : Nat, 1 ≤ k ∧ k ≤ s.size ∧ i = .int .i64 k ∧ Hid (∀ j (hj : j < s.size), 1 ≤ j → j < k → 97 ≤ (s[j].toNat : Int) ∧ (s[j].toNat : Int) ≤ 122)) (fun i => s.size - (intOf i).toNat)
          case atStart => exact ⟨1, Nat.le_refl _, by omega, rfl, fun j _ _ _ => by omega⟩
          case round =>
            obtain ⟨k, hk1, hk, rfl, HA⟩ := hrel
            by_cases hlt : k < s.size
            · by_cases hc : (s[k].toNat : Int) < 97
              · have hf := Lib.hid (nameOk_false_at s k hk1 hlt (.inl hc))
                go_wp2
                go_ret
                exact ⟨ret_bool hf.out.symm, rfl⟩
              · have hc1 : 97 ≤ (s[k].toNat : Int) := by omega
                clear hc
                by_cases hc : (122 : Int) < (s[k].toNat : Int)
                · have hf := Lib.hid (nameOk_false_at s k hk1 hlt (.inr hc))
                  go_wp2
                  go_ret
                  exact ⟨ret_bool hf.out.symm, rfl⟩
                · have hc2 : (s[k].toNat : Int) ≤ 122 := by omega
                  clear hc
                  go_wp2
                  go_round
                  case rel => exact ⟨k + 1, by omega, by omega, by go_num, fun j hj h1 h2 => by
                    rcases Nat.lt_or_ge j k with h | h
                    · exact HA.out j hj h1 h
                    · obtain rfl : j = k := by omega
                      exact ⟨hc1, hc2⟩⟩
                  case measure => simp [intOf]; omega
            · have hf := Lib.hid (nameOk_true s p0 (by omega) ha1 ha2 (fun j hj h1 => HA.out j hj h1 (by omega)))
              go_wp2
              go_ret
              exact ⟨ret_bool hf.out.symm, rfl⟩

end Go.Proofs.YtilndhmegaccmaaGreatDoor

namespace Go.Proofs.YtilndhmegaccmaaGreatDoor
open Go.RowKit

/-- a constructor in a world of n data types -/
def ctorOkB (n : Int) (c : Kt) : Bool := nameOk c.name.data.toList && (decide ((c.args.length : Int) ≤ 3) && (withinB c.idx 0 3 && c.args.all (argOkB n)))
theorem all_drop {α : Type} (p : α → Bool) (l : List α) (k : Nat) (h : k < l.length) : (l.drop k).all p = (p l[k] && (l.drop (k + 1)).all p) := by
  rw [List.drop_eq_getElem_cons h]; rfl

set_option maxRecDepth 100000 in
set_option maxHeartbeats 1600000 in
theorem spec_l1Ctor (n : Int) (c : Kt) (w : World) (cs : List Value) (F : List Nat) (hv : KtR w c cs F) (hF : Under w.heap.size F) :
    Calls Tryz.prog 54 #[.int .i64 n, .agg cs.toArray] w fun e w' => e = .returned (.bool (ctorOkB n c)) ∧ Below w.heap.size w w' := by
  obtain ⟨kv, rfl, ha, hs⟩ := hv
  have HX := Lib.hid ha
  obtain ⟨A, cap, rfl, hc1, hc2⟩ := ha.form
  clear ha
  have HF := Lib.hid hF
  have HS := Lib.hid hs
  clear hF hs
  go_enter Tryz.func54, Tryz.ntmps54
  go_wp2_with fail
  obtain ⟨W2, hW2⟩ : ∃ W2, W2 = w.alloc (.cells #[.string c.name, .slice A c.args.length cap, .int .i64 c.idx] 60) := ⟨_, rfl⟩
  have hB2 : Below w.heap.size w W2 := by rw [hW2]; exact (Below.refl _ _).alloc (Nat.le_refl _) _
  have k1 : Blk W2 w.heap.size 60 #[.string c.name, .slice A c.args.length cap, .int .i64 c.idx] := by rw [hW2]; exact Blk.new _ _ _
  rw [← hW2]
  clear hW2
  have x1 : W2.cell? ⟨w.heap.size, 1, none⟩ = some (.slice A c.args.length cap) := (k1.cell 1).trans (by simp)
  have x2 : W2.cell? ⟨w.heap.size, 2, none⟩ = some (.int .i64 c.idx) := (k1.cell 2).trans (by simp)
  have hlt0 := k1.lt
  have K1 := Lib.hid k1
  clear k1
  refine (spec_NameValid c.name W2 (by have := HS.out; unfold maxLen; omega)).mono ?_
  rintro e w' ⟨rfl, rfl⟩
  cases hn : nameOk c.name.data.toList with
  | false =>
    have hf : Hid (ctorOkB n c = false) := by unfold Hid ctorOkB; rw [hn]; rfl
    clear hn
    go_wp2
    go_ret
    exact ⟨ret_bool hf.out.symm, hB2⟩
  | true =>
    have h0 : ctorOkB n c = (decide ((c.args.length : Int) ≤ 3) && (withinB c.idx 0 3 && c.args.all (argOkB n))) := by unfold ctorOkB; rw [hn, Bool.true_and]
    clear hn
    by_cases hl : (c.args.length : Int) ≤ 3
    · have t1 : decide ((c.args.length : Int) > 3) = false := by simp; omega
      have h1 : ctorOkB n c = (withinB c.idx 0 3 && c.args.all (argOkB n)) := by rw [h0, decide_eq_true hl, Bool.true_and]
      clear h0 hl
      by_cases hi : c.idx < 0
      · have t2 : decide (c.idx < 0) = true := by simpa using hi
        have hf : Hid (ctorOkB n c = false) := by rw [h1, withinB_lo (by simp; omega)]; rfl
        clear h1 hi
        go_wp2
        go_ret
        exact ⟨ret_bool hf.out.symm, hB2⟩
      · have t2 : decide (c.idx < 0) = false := by simpa using hi
        by_cases hj : c.idx > 3
        · have t3 : decide (c.idx > 3) = true := by simpa using hj
          have hf : Hid (ctorOkB n c = false) := by rw [h1, withinB_hi (by simp; omega), show decide (c.idx ≤ 3) = false from by simp; omega]; rfl
          clear h1 hi hj
          go_wp2
          go_ret
          exact ⟨ret_bool hf.out.symm, hB2⟩
        · have t3 : decide (c.idx > 3) = false := by simpa using hj
          have h2 : ctorOkB n c = c.args.all (argOkB n) := by rw [h1, (withinB_iff _ _ _).2 ⟨by omega, by omega⟩, Bool.true_and]
          have HOk := Lib.hid h2
          clear h1 hi hj h2
          go_wp2
          go_loopw [5] (fun i wr => ∃ k : Nat, k ≤ c.args.length ∧ i = .int .i64 k ∧ Hid (c.args.all (argOkB n) = (c.args.drop k).all (argOkB n)) ∧ Below w.heap.size w wr ∧ Hid (Blk wr w.heap.size 60 #[.string c.name, .slice A c.args.length cap, .int .i64 c.idx])) (fun i _ => c.args.length - (intOf i).toNat)
          case atStart => exact ⟨0, Nat.zero_le _, rfl, rfl, hB2, K1⟩
          case round =>
            obtain ⟨k, hk, rfl, HT, hB, KB⟩ := hrel
            clear x1 x2 hlt0
            have x1 : wr.cell? ⟨w.heap.size, 1, none⟩ = some (.slice A c.args.length cap) := (KB.out.cell 1).trans (by simp)
            have hlt0 := KB.out.lt
            by_cases hlt : k < c.args.length
            · have hi0 : (0 : Int) ≤ (k : Int) := by omega
              have hi1 : (k : Int) < (c.args.length : Int) := by omega
              obtain ⟨b, off, cs, G, rfl, hb, hcs, hv, -⟩ := HX.out.get TyR_len hlt
              have hbl := HF.out b hb
              have hcs := hcs.same (hB.block b hbl)
              obtain rfl := TyR_form hv
              have c0 := hcs 0 _ rfl
              have c1 := hcs 1 _ rfl
              simp only [Nat.add_zero] at c0
              clear hcs hv hb
              have hbw := Nat.lt_of_lt_of_le hbl hB.size
              have hd := all_drop (argOkB n) c.args k hlt
              go_wp2_with fail
              refine (spec_l1Arg n c.args[k] wr).mono ?_
              rintro e w' ⟨rfl, hB'⟩
              have hB3 := hB.trans (hB'.mono hB.size)
              have KB3 : Hid (Blk w' w.heap.size 60 #[.string c.name, .slice (some ⟨b, off, none⟩) c.args.length cap, .int .i64 c.idx]) := KB.out.same (hB'.block _ KB.out.lt)
              cases hq : argOkB n c.args[k] with
              | false =>
                have hf : Hid (ctorOkB n c = false) := by rw [hq, Bool.false_and] at hd; exact HOk.out.trans (HT.out.trans hd)
                clear hq hd
                go_wp2
                go_ret
                exact ⟨ret_bool hf.out.symm, hB3⟩
              | true =>
                have hT2 : Hid (c.args.all (argOkB n) = (c.args.drop (k + 1)).all (argOkB n)) := by rw [hq, Bool.true_and] at hd; exact HT.out.trans hd
                clear hq hd
                go_wp2
                go_roundw
                case rel => exact ⟨k + 1, by omega, by go_num, hT2, hB3, KB3⟩
                case measure => simp [intOf]; omega
            · have hT := HT.out
              rw [List.drop_of_length_le (by omega)] at hT
              have hf : Hid (ctorOkB n c = true) := HOk.out.trans hT
              clear hT
              go_wp2
              go_ret
              exact ⟨ret_bool hf.out.symm, hB⟩
    · have t1 : decide ((c.args.length : Int) > 3) = true := by simp; omega
      have hf : Hid (ctorOkB n c = false) := by rw [h0, decide_eq_false hl]; rfl
      clear h0 hl
      go_wp2
      go_ret
      exact ⟨ret_bool hf.out.symm, hB2⟩
end Go.Proofs.YtilndhmegaccmaaGreatDoor

namespace Go.Proofs.YtilndhmegaccmaaGreatDoor
open Go.RowKit

def bigB (c : UInt8) : Bool := decide (65 ≤ (c.toNat : Int)) && decide ((c.toNat : Int) ≤ 90)
def dnameOk : List UInt8 → Bool
  | [c] => bigB c && !(c == 73)
  | _ => false

set_option maxHeartbeats 400000 in
theorem spec_l1Big (c : UInt8) (w : World) : Calls Tryz.prog 76 #[.int .u8 (c.toNat : Int)] w fun e w' => e = .returned (.bool (bigB c)) ∧ w = w' := by
  cases h : decide (65 ≤ (c.toNat : Int)) with
  | false =>
    have hf : Hid (bigB c = false) := by unfold Hid bigB; rw [h]; rfl
    go_enter Tryz.func76, Tryz.ntmps76
    go_wp2
    go_ret
    exact ⟨ret_bool hf.out.symm, rfl⟩
  | true =>
    have hf : Hid (bigB c = decide ((c.toNat : Int) ≤ 90)) := by unfold Hid bigB; rw [h]; rfl
    go_enter Tryz.func76, Tryz.ntmps76
    go_wp2
    go_ret
    exact ⟨ret_bool hf.out.symm, rfl⟩

theorem one_byte (s : ByteArray) (h : s.size = 1) : s.data.toList = [s[0]] := by
  rw [bytes_cons s (by omega)]
  congr 1
  exact List.eq_nil_of_length_eq_zero (by simp; omega)

set_option maxHeartbeats 400000 in
theorem spec_l1Data (s : ByteArray) (w : World) (hs : s.size ≤ maxLen) : Calls Tryz.prog 53 #[.string s] w fun e w' => e = .returned (.bool (dnameOk s.data.toList)) ∧ w = w' := by
  unfold maxLen at hs
  by_cases h : s.size = 1
  · have h1 := one_byte s h
    have h0 : ((s.size : Int) == 1) = true := beq_iff_eq.2 (by omega)
    have p0 : 0 < s.size := by omega
    have p0' : (0 : Int) < (s.size : Int) := by omega
    cases hb : bigB s[0] with
    | false =>
      have hf : Hid (dnameOk s.data.toList = false) := by
        rw [h1]; show (bigB s[0] && !(s[0] == 73)) = false; rw [hb]; rfl
      clear h1 h
      have HB := Lib.hid hb
      clear hb
      go_enter Tryz.func53, Tryz.ntmps53
      go_wp2_with fail
      refine (spec_l1Big s[0] _).mono ?_
      rintro e w' ⟨rfl, rfl⟩
      rw [HB.out]
      go_wp2
      go_ret
      exact ⟨ret_bool hf.out.symm, rfl⟩
    | true =>
      have hI : (s.toList == [73]) = (s[0] == 73) := by rw [ByteArray.toList_eq, h1]; simp
      have hf : Hid (dnameOk s.data.toList = !(s.toList == [73])) := by
        rw [hI, h1]; show (bigB s[0] && !(s[0] == 73)) = _; rw [hb]; rfl
      clear h1 h hI
      have HB := Lib.hid hb
      clear hb
      go_enter Tryz.func53, Tryz.ntmps53
      go_wp2_with fail
      refine (spec_l1Big s[0] _).mono ?_
      rintro e w' ⟨rfl, rfl⟩
      rw [HB.out]
      go_wp2
      go_ret
      exact ⟨ret_bool hf.out.symm, rfl⟩
  · have h0 : ((s.size : Int) == 1) = false := beq_eq_false_iff_ne.2 (by omega)
    have hf : Hid (dnameOk s.data.toList = false) := by
      have hl : s.data.toList.length ≠ 1 := by simpa using h
      unfold Hid
      generalize s.data.toList = l at *
      match l, hl with
      | [], _ => rfl
      | [c], hl => simp at hl
      | _ :: _ :: _, _ => rfl
    clear h
    go_enter Tryz.func53, Tryz.ntmps53
    go_wp2
    go_ret
    exact ⟨ret_bool hf.out.symm, rfl⟩
end Go.Proofs.YtilndhmegaccmaaGreatDoor

namespace Go.Proofs.YtilndhmegaccmaaGreatDoor
open Go.RowKit

def nameIn (l : List ByteArray) (s : ByteArray) : Bool := l.any fun x => x.toList == s.toList
def ctorsGo (n : Int) : List ByteArray → List Kt → Bool
  | _, [] => true
  | met, c :: cs => ctorOkB n c && (!nameIn met c.name && ctorsGo n (met ++ [c.name]) cs)
/-- the same as the reference has it: b says that the data type's name stood before -/
def ctorsSpec (n : Int) (b : Bool) : List ByteArray → List Kt → Bool
  | _, [] => true
  | met, c :: cs => ctorOkB n c && (!(b || nameIn met c.name) && ctorsSpec n b (met ++ [c.name]) cs)
def worldGo (n : Int) : List ByteArray → List ByteArray → List Dt → Bool
  | _, _, [] => true
  | datas, met, d :: ds => dnameOk d.name.data.toList && (!nameIn datas d.name && (withinB (d.ctors.length : Int) 1 4 && (ctorsGo n met d.ctors && worldGo n (datas ++ [d.name]) (met ++ d.ctors.map Kt.name) ds)))
def worldOk (xs : List Dt) : Bool := decide ((xs.length : Int) ≤ 4) && worldGo xs.length [] [] xs

theorem ctorsSpec_false (n : Int) : ∀ (cs : List Kt) (met : List ByteArray), ctorsSpec n false met cs = ctorsGo n met cs
  | [], _ => rfl
  | c :: cs, met => by rw [ctorsSpec, ctorsGo, ctorsSpec_false n cs, Bool.false_or]
theorem ctorsSpec_true (n : Int) (c : Kt) (cs : List Kt) (met : List ByteArray) : ctorsSpec n true met (c :: cs) = false := by
  rw [ctorsSpec, Bool.true_or, Bool.not_true, Bool.false_and, Bool.and_false]
/-- the reference's test of the constructors, where there is one at least -/
theorem ctorsSpec_eq (n : Int) (b : Bool) (cs : List Kt) (met : List ByteArray) (h : cs ≠ []) : ctorsSpec n b met cs = (!b && ctorsGo n met cs) := by
  cases b with
  | false => rw [ctorsSpec_false]; rfl
  | true =>
    cases cs with
    | nil => exact absurd rfl h
    | cons c cs => rw [ctorsSpec_true]; rfl
end Go.Proofs.YtilndhmegaccmaaGreatDoor

namespace Go.Proofs.YtilndhmegaccmaaGreatDoor
open Go.RowKit

/-- a type of values in a world of n data types -/
def typeOkB (n : Int) (t : Ty) : Bool := if t.d = -1 then t.i == 0 else withinB t.d 0 (n - 1) && withinB t.i 0 3
theorem typeOkB_arg (n : Int) (t : Ty) : (argOkB n t && decide (0 ≤ t.i)) = typeOkB n t := by
  unfold argOkB typeOkB
  by_cases h : t.d = -1
  · rw [if_pos h, if_pos h, Bool.eq_iff_iff]; simp; omega
  · rw [if_neg h, if_neg h, Bool.eq_iff_iff]; simp [withinB]; omega
def typeValidB (xs : List Dt) (t : Ty) : Bool := worldOk xs && typeOkB xs.length t
end Go.Proofs.YtilndhmegaccmaaGreatDoor

namespace Go.Proofs.YtilndhmegaccmaaGreatDoor
open Go.RowKit

theorem ctorsGo_all {n : Int} : ∀ {cs : List Kt} {met : List ByteArray}, ctorsGo n met cs = true → ∀ c ∈ cs, ctorOkB n c = true
  | [], _, _, c, h => by cases h
  | c :: cs, met, h, x, hx => by
    simp only [ctorsGo, Bool.and_eq_true] at h
    rcases List.mem_cons.1 hx with rfl | hx
    · exact h.1
    · exact ctorsGo_all h.2.2 x hx
theorem worldGo_all {n : Int} : ∀ {ds : List Dt} {datas met : List ByteArray}, worldGo n datas met ds = true → ∀ x ∈ ds, dnameOk x.name.data.toList = true ∧ (1 ≤ x.ctors.length ∧ x.ctors.length ≤ 4) ∧ ∀ c ∈ x.ctors, ctorOkB n c = true
  | [], _, _, _, x, h => by cases h
  | d :: ds, datas, met, h, x, hx => by
    simp only [worldGo, Bool.and_eq_true] at h
    rcases List.mem_cons.1 hx with rfl | hx
    · have := (withinB_iff _ _ _).1 h.2.2.1
      exact ⟨h.1, ⟨by omega, by omega⟩, ctorsGo_all h.2.2.2.1⟩
    · exact worldGo_all h.2.2.2.2 x hx
structure KtOk (n : Nat) (c : Kt) : Prop where
  name : nameOk c.name.data.toList = true
  args : c.args.length ≤ 3
  lo : 0 ≤ c.idx
  hi : c.idx ≤ 3
  all : ∀ t ∈ c.args, argOkB n t = true
structure DtOk (n : Nat) (x : Dt) : Prop where
  name : dnameOk x.name.data.toList = true
  lo : 1 ≤ x.ctors.length
  hi : x.ctors.length ≤ 4
  all : ∀ c ∈ x.ctors, KtOk n c
structure WorldOK (xs : List Dt) : Prop where
  len : xs.length ≤ 4
  all : ∀ x ∈ xs, DtOk xs.length x
theorem ktOk {n : Nat} {c : Kt} (h : ctorOkB n c = true) : KtOk n c := by
  unfold ctorOkB at h
  simp only [Bool.and_eq_true, withinB_iff, decide_eq_true_eq, List.all_eq_true] at h
  exact ⟨h.1, by omega, h.2.2.1.1, h.2.2.1.2, h.2.2.2⟩
theorem worldOK {xs : List Dt} (h : worldOk xs = true) : WorldOK xs := by
  unfold worldOk at h
  simp only [Bool.and_eq_true, decide_eq_true_eq] at h
  exact ⟨by omega, fun x hx => by
    obtain ⟨h1, h2, h3⟩ := worldGo_all h.2 x hx
    exact ⟨h1, h2.1, h2.2, fun c hc => ktOk (h3 c hc)⟩⟩
theorem WorldOK.at {xs : List Dt} (h : WorldOK xs) {d : Nat} (hd : d < xs.length) : DtOk xs.length xs[d] := h.all _ (List.getElem_mem hd)
theorem WorldOK.ctor {xs : List Dt} (h : WorldOK xs) {d k : Nat} (hd : d < xs.length) (hk : k < xs[d].ctors.length) : KtOk xs.length xs[d].ctors[k] := (h.at hd).all _ (List.getElem_mem hk)

/-- a type whose data type is one of the world's, or that of numbers -/
def InWorld (n : Nat) (t : Ty) : Prop := t.d = -1 ∨ ∃ d : Nat, t.d = (d : Int) ∧ d < n
theorem typeOkB_in {n : Nat} {t : Ty} (h : typeOkB n t = true) : InWorld n t := by
  unfold typeOkB at h
  by_cases e : t.d = -1
  · exact .inl e
  · rw [if_neg e] at h
    simp [withinB] at h
    exact .inr ⟨t.d.toNat, by omega, by omega⟩
theorem argOkB_in {n : Nat} {t : Ty} (h : argOkB n t = true) : InWorld n t := by
  unfold argOkB at h
  by_cases e : t.d = -1
  · exact .inl e
  · rw [if_neg e] at h
    simp [withinB] at h
    exact .inr ⟨t.d.toNat, by omega, by omega⟩
theorem typeValid_split {xs : List Dt} {t : Ty} (h : typeValidB xs t = true) : WorldOK xs ∧ typeOkB xs.length t = true := by
  unfold typeValidB at h
  rw [Bool.and_eq_true] at h
  exact ⟨worldOK h.1, h.2⟩
end Go.Proofs.YtilndhmegaccmaaGreatDoor

namespace Go.Proofs.YtilndhmegaccmaaGreatDoor
open Go.RowKit

def bs (l : List UInt8) : ByteArray := ⟨l.toArray⟩
theorem bs_toList (l : List UInt8) : (bs l).data.toList = l := rfl
theorem bs_of (s : ByteArray) : bs s.data.toList = s := rfl
theorem bs_size (l : List UInt8) : (bs l).size = l.length := rfl
/-- the pieces of a text between the bytes c; cur is the piece under way -/
def cutGo (c : UInt8) : List UInt8 → List UInt8 → List (List UInt8)
  | cur, [] => [cur]
  | cur, x :: xs => if x = c then cur :: cutGo c [] xs else cutGo c (cur ++ [x]) xs
def cutL (c : UInt8) (l : List UInt8) : List (List UInt8) := cutGo c [] l
def findGo (s : List UInt8) : Nat → List (List UInt8) → Int
  | _, [] => -2
  | i, x :: xs => if x = s then (i : Int) else findGo s (i + 1) xs
def findL (names : List (List UInt8)) (s : List UInt8) : Int := if s = [73] then -1 else findGo s 0 names
def idxOf (rest : List UInt8) : Int := if rest = [42] then -1 else match rest with
    | [x] => if 48 ≤ x.toNat ∧ x.toNat ≤ 57 then (x.toNat : Int) - 48 else 0
    | _ => 0
def parseTy (names : List (List UInt8)) : List UInt8 → Ty
  | [] => ⟨-2, 0⟩
  | c :: rest => ⟨findL names [c], idxOf rest⟩
def headL (l : List (List UInt8)) : List UInt8 := match l with | [] => [] | x :: _ => x
def parseArgs (names : List (List UInt8)) (parts : List (List UInt8)) : List Ty :=
  match parts with
  | _ :: p :: _ => if p = [] then [] else ((cutL 44 (p.take (p.length - 1))).take 4).map (parseTy names)
  | _ => []
def parseBody (names : List (List UInt8)) (idx : Int) (s : List UInt8) : Kt := ⟨bs (headL (cutL 40 s)), parseArgs names (cutL 40 s), idx⟩
def hasIdx (s : List UInt8) : Bool := decide (2 < s.length) && decide (s.getD (s.length - 2) 0 = 58)
def parseKt (names : List (List UInt8)) (s : List UInt8) : Kt :=
  if hasIdx s = true then parseBody names (((s.getD (s.length - 1) 0).toNat : Int) - 48) (s.take (s.length - 2)) else parseBody names 0 s
def parseDt (names : List (List UInt8)) (name : List UInt8) (rest : List UInt8) : Dt := ⟨bs name, ((cutL 124 rest).take 5).map (parseKt names)⟩
/-- names and definitions of the lines, none where one is not of two parts -/
def splitGo : List (List UInt8) → Option (List (List UInt8 × List UInt8))
  | [] => some []
  | l :: ls => match cutL 61 l with
    | [a, b] => match splitGo ls with
      | some r => some ((a, b) :: r)
      | none => none
    | _ => none
def parseGo (text : List UInt8) : Option (List Dt) :=
  if text = [] then some [] else
  match splitGo ((cutL 59 text).take 5) with
  | none => none
  | some r => some (r.map fun p => parseDt (r.map Prod.fst) p.1 p.2)
end Go.Proofs.YtilndhmegaccmaaGreatDoor

namespace Go.Proofs.YtilndhmegaccmaaGreatDoor
open Go.RowKit

def digT (i : Int) : List UInt8 := [UInt8.ofNat (48 + i.toNat)]
def idxT (i : Int) : List UInt8 := if i = 0 then [] else if i = -1 then [42] else digT i
def nameAt (xs : List Dt) (d : Int) : List UInt8 := match xs[d.toNat]? with | some x => x.name.data.toList | none => []
def tyT (xs : List Dt) (t : Ty) : List UInt8 := if t.d = -1 then [73] else nameAt xs t.d ++ idxT t.i
def argsT (xs : List Dt) : Bool → List Ty → List UInt8
  | _, [] => []
  | b, a :: l => (if b = true then 40 else 44) :: (tyT xs a ++ argsT xs false l)
def endT (c : Kt) : List UInt8 := if 0 < c.idx then 58 :: digT c.idx else []
def closeT (c : Kt) : List UInt8 := if 0 < c.args.length then [41] else []
def ktT (xs : List Dt) (c : Kt) : List UInt8 := c.name.data.toList ++ (argsT xs true c.args ++ (closeT c ++ endT c))
def ktsT (xs : List Dt) : Bool → List Kt → List UInt8
  | _, [] => []
  | b, c :: l => (if b = true then [] else [124]) ++ (ktT xs c ++ ktsT xs false l)
def dtsT (xs : List Dt) : Bool → List Dt → List UInt8
  | _, [] => []
  | b, x :: l => (if b = true then [] else [59]) ++ (x.name.data.toList ++ (61 :: (ktsT xs true x.ctors ++ dtsT xs false l)))
def textT (xs : List Dt) : List UInt8 := dtsT xs true xs
/-- what ParseWorld gives: none where the text is not one of a valid world -/
def parseW (text : List UInt8) : Option (List Dt) := match parseGo text with
  | none => none
  | some xs => if worldOk xs = true then if textT xs = text then some xs else none else none
def fineW (text : List UInt8) : Bool := match parseW text with
  | some (_ :: _) => true
  | _ => false
theorem fineW_ex {text : List UInt8} (h : fineW text = true) : ∃ xs, parseW text = some xs ∧ worldOk xs = true ∧ 0 < xs.length := by
  unfold fineW at h
  split at h
  · rename_i x l e
    refine ⟨_, e, ?_, by simp⟩
    unfold parseW at e
    split at e
    · cases e
    · split at e
      · rename_i hw
        split at e
        · cases e; exact hw
        · cases e
      · cases e
  · cases h
def sevenT : List (List UInt8) := [
  [76, 61, 78, 105, 108, 124, 67, 111, 110, 115, 40, 73, 44, 76, 41],
  [66, 61, 84, 114, 117, 124, 70, 108, 115, 59, 84, 61, 76, 101, 97, 102, 124, 78, 111, 100, 101, 40, 84, 44, 66, 44, 84, 41],
  [69, 61, 78, 117, 109, 40, 73, 41, 58, 49, 124, 66, 111, 108, 40, 66, 41, 58, 50, 124, 65, 100, 100, 40, 69, 49, 44, 69, 49, 41, 58, 49, 124, 73, 102, 40, 69, 50, 44, 69, 42, 44, 69, 42, 41, 59, 66, 61, 84, 114, 117, 124, 70, 108, 115],
  [79, 61, 78, 111, 110, 124, 83, 111, 109, 40, 73, 41, 59, 80, 61, 80, 97, 105, 114, 40, 79, 44, 79, 41],
  [86, 61, 69, 110, 100, 58, 49, 124, 83, 111, 109, 101, 40, 73, 44, 86, 49, 41, 58, 50, 124, 84, 119, 111, 40, 86, 42, 41],
  [78, 61, 78, 101, 118, 101, 114, 40, 78, 41, 59, 66, 61, 84, 114, 117, 124, 70, 108, 115, 124, 77, 97, 121, 40, 78, 41],
  [83, 61, 82, 101, 100, 124, 71, 114, 101, 101, 110, 124, 66, 108, 117, 101, 124, 77, 105, 120, 40, 83, 44, 83, 41]]
set_option maxRecDepth 100000 in
theorem sevenT_fine : sevenT.all fineW = true := by decide +kernel
end Go.Proofs.YtilndhmegaccmaaGreatDoor

namespace Go.Proofs.YtilndhmegaccmaaGreatDoor
open Go.RowKit

def tl (s : ByteArray) : List UInt8 := s.data.toList
theorem tl_len (s : ByteArray) : (tl s).length = s.size := by unfold tl; simp
theorem tl_extract (s : ByteArray) (a b : Nat) : tl (s.extract a b) = ((tl s).take b).drop a := by
  unfold tl
  rw [ByteArray.data_extract, Array.toList_extract, List.extract_eq_take_drop, List.drop_take]
theorem tl_at (s : ByteArray) (i : Nat) (h : i < s.size) : (tl s)[i]'(by rw [tl_len]; exact h) = s[i] := rfl
theorem bs_tl (s : ByteArray) : bs (tl s) = s := rfl
theorem tl_bs (l : List UInt8) : tl (bs l) = l := rfl
theorem tl_inj {a b : ByteArray} (h : tl a = tl b) : a = b := by rw [← bs_tl a, ← bs_tl b, h]
def cutS (c : UInt8) (s : ByteArray) : List ByteArray := (cutL c (tl s)).map bs
theorem info_strE : (Tryz.prog.info? 9).map (fun i => (i.zero, i.size, i.bytes)) = some (some (.string ⟨#[]⟩), 1, 16) := by kernel_rfl
/-- what is left to cut at place i, the piece under way begins at from -/
def cutRest (c : UInt8) (s : ByteArray) (frm i : Nat) : List ByteArray := if i ≤ s.size then (cutGo c (((tl s).take i).drop frm) ((tl s).drop i)).map bs else []
theorem cutRest_start (c : UInt8) (s : ByteArray) : cutRest c s 0 0 = cutS c s := by
  unfold cutRest cutS cutL
  rw [if_pos (Nat.zero_le _)]
  rfl
theorem cutRest_end (c : UInt8) (s : ByteArray) (frm : Nat) : cutRest c s frm s.size = s.extract frm s.size :: cutRest c s (s.size + 1) (s.size + 1) := by
  unfold cutRest
  have hd : (tl s).drop s.size = [] := List.drop_of_length_le (by rw [tl_len]; exact Nat.le_refl _)
  rw [if_pos (Nat.le_refl _), if_neg (by omega), hd, cutGo, List.map_cons, List.map_nil, ← tl_extract, bs_tl]
theorem cutRest_hit (c : UInt8) (s : ByteArray) (frm i : Nat) (hi : i < s.size) (h : s[i] = c) : cutRest c s frm i = s.extract frm i :: cutRest c s (i + 1) (i + 1) := by
  unfold cutRest
  rw [if_pos (by omega), if_pos (by omega), List.drop_eq_getElem_cons (i := i) (by rw [tl_len]; exact hi), cutGo, if_pos (by rw [tl_at s i hi]; exact h), List.map_cons, ← tl_extract, bs_tl]
  congr 3
  rw [List.drop_of_length_le (by simp; omega)]
theorem cutRest_miss (c : UInt8) (s : ByteArray) (frm i : Nat) (hi : i < s.size) (hf : frm ≤ i) (h : s[i] ≠ c) : cutRest c s frm i = cutRest c s frm (i + 1) := by
  unfold cutRest
  rw [if_pos (by omega), if_pos (by omega), List.drop_eq_getElem_cons (i := i) (by rw [tl_len]; exact hi), cutGo, if_neg (by rw [tl_at s i hi]; exact h)]
  congr 3
  rw [List.take_succ_eq_append_getElem (by rw [tl_len]; exact hi), List.drop_append_of_le_length (by rw [List.length_take, tl_len]; omega)]
theorem cutRest_over (c : UInt8) (s : ByteArray) (frm : Nat) {i : Nat} (h : s.size < i) : cutRest c s frm i = [] := if_neg (by omega)
theorem cutRest_len (c : UInt8) (s : ByteArray) (frm i : Nat) : (cutRest c s frm i).length ≤ s.size + 1 - i := by
  have key : ∀ (l cur : List UInt8), (cutGo c cur l).length ≤ l.length + 1 := by
    intro l
    induction l with
    | nil => intro cur; simp [cutGo]
    | cons x xs ih =>
      intro cur
      rw [cutGo]
      split
      · have := ih []; simp; omega
      · have := ih (cur ++ [x]); simp; omega
  unfold cutRest
  split
  · rw [List.length_map]
    have := key ((tl s).drop i) (((tl s).take i).drop frm)
    rw [List.length_drop, tl_len] at this
    omega
  · simp
theorem cutS_len (c : UInt8) (s : ByteArray) : (cutS c s).length ≤ s.size + 1 := by rw [← cutRest_start]; exact cutRest_len c s 0 0
theorem cutS_mem (c : UInt8) (s : ByteArray) : ∀ x ∈ cutS c s, x.size ≤ s.size := by
  have key : ∀ (l cur : List UInt8), ∀ x ∈ cutGo c cur l, x.length ≤ cur.length + l.length := by
    intro l
    induction l with
    | nil => intro cur x hx; rw [cutGo, List.mem_singleton] at hx; subst hx; simp
    | cons y ys ih =>
      intro cur x hx
      rw [cutGo] at hx
      split at hx
      · rcases List.mem_cons.1 hx with rfl | hx
        · omega
        · have := ih [] x hx; simp at this ⊢; omega
      · have := ih _ x hx; simp at this ⊢; omega
  intro x hx
  unfold cutS at hx
  obtain ⟨l, hl, rfl⟩ := List.mem_map.1 hx
  have := key _ _ l hl
  rw [tl_len] at this
  rw [bs_size]
  simpa using this
def MadeStrs (w : World) (xs : List ByteArray) (e : Ending) (w' : World) : Prop := MadeArr StrR w xs e w'
theorem StrR_nilF (w : World) (x : ByteArray) (cs : List Value) (F : List Nat) (h : StrR w x cs F) : F = [] := h.2
theorem Own.strs {w0 w : World} {B : Nat} {E : TypeId} {xs : List ByteArray} {v : Value} (h : Own w B E 1 StrR xs v []) (hb : Below w0.heap.size w0 w) (hB : w0.heap.size ≤ B) : MadeStrs w0 xs (.returned v) w :=
  h.gives hb hB (fun b hb => by cases hb) (Free.nil _)
theorem ArrStr.at {w0 w : World} {b off n cap : Nat} {F : List Nat} {xs : List ByteArray} (h : Arr w0 (StrR w0) xs (.slice (some ⟨b, off, none⟩) n cap) F) (hF : Under w0.heap.size F) (hB : Below w0.heap.size w0 w) (i : Nat) (hi : i < xs.length) :
    b < w.heap.size ∧ w.cell? ⟨b, off + i, none⟩ = some (.string xs[i]) := by
  obtain ⟨b', off', cs, G, e, hb, hcs, hv, hG⟩ := h.get (StrR_len w0) hi
  cases e
  have hbl := hF _ hb
  have hc := hcs.same (hB.block _ hbl)
  obtain ⟨rfl, -⟩ := hv
  have := hc 0 _ rfl
  simp only [Nat.mul_one, Nat.add_zero] at this
  exact ⟨Nat.lt_of_lt_of_le hbl hB.size, this⟩
theorem ArrStr.mono {w w' : World} {vs : List ByteArray} {x : Value} {F : List Nat} (h : Arr w (StrR w) vs x F) (hF : Kept F w w') : Arr w' (StrR w') vs x F := h.mono hF fun v _ cs G hk h => StrR_mono _ _ v cs G hk h
theorem ArrStr.below {w w' : World} {B : Nat} {vs : List ByteArray} {x : Value} {F : List Nat} (h : Arr w (StrR w) vs x F) (hb : Below B w w') (hF : Under B F) : Arr w' (StrR w') vs x F := ArrStr.mono h (.of_below hb hF)
end Go.Proofs.YtilndhmegaccmaaGreatDoor

namespace Go.Proofs.YtilndhmegaccmaaGreatDoor
open Go.RowKit

theorem conv1 (w : World) (x : Int) : (convert 75 9 (.slice (some ⟨w.heap.size, 0, none⟩) 1 1)).run Tryz.prog (w.alloc (.cells #[.int .u8 x] 5)) = .ok (.string (strOfNums [x])) (w.alloc (.cells #[.int .u8 x] 5)) :=
  run_convert_bytes_arg _ 75 5 Tryz.underlying75 Tryz.underlying5 w.heap.size 0 1 1 [x] rfl (fun i hi => by
    obtain rfl : i = 0 := by omega
    exact ((Blk.new w 5 #[.int .u8 x]).cell 0).trans (by simp)) 9 Tryz.underlying9
theorem data_append (a b : ByteArray) : (a ++ b).data.toList = a.data.toList ++ b.data.toList := by rw [ByteArray.data_append, Array.toList_append]
theorem size_append (a b : ByteArray) : (a ++ b).size = a.size + b.size := by show (a ++ b).data.size = _; rw [ByteArray.data_append, Array.size_append]; rfl
theorem bytes_ext {a b : ByteArray} (h : a.data.toList = b.data.toList) : a = b := by
  cases a; cases b
  simp at h
  rw [h]
end Go.Proofs.YtilndhmegaccmaaGreatDoor

namespace Go.Proofs.YtilndhmegaccmaaGreatDoor
open Go.RowKit

theorem strOf_dig (n : Int) (h0 : 0 ≤ n) (h9 : n ≤ 9) : strOfNums [48 + n] = bs (digT n) := by
  apply tl_inj
  rw [tl_bs]
  show (strOfNums [48 + n]).data.toList = _
  rw [strOfNums_data]
  unfold digT
  simp only [List.map_cons, List.map_nil, List.cons.injEq, and_true]
  congr 1
  omega
theorem ret_str {a b : ByteArray} (h : a = b) : Ending.returned (.string a) = .returned (.string b) := by rw [h]
theorem tl_append (a b : ByteArray) : tl (a ++ b) = tl a ++ tl b := data_append a b
theorem digT_len (n : Int) : (digT n).length = 1 := rfl
theorem idxT_len (n : Int) : (idxT n).length ≤ 1 := by
  unfold idxT
  split
  · simp
  · split <;> simp [digT]
theorem dname_len {s : ByteArray} (h : dnameOk (tl s) = true) : s.size = 1 := by
  rw [← tl_len]
  unfold dnameOk at h
  split at h
  · rename_i e; rw [e]; rfl
  · cases h
theorem nameOk_len {s : ByteArray} (h : nameOk (tl s) = true) : s.size ≤ 5 := by
  rcases Nat.lt_or_ge 5 s.size with h5 | h5
  · have := nameOk_false_len s (.inr h5)
    rw [show nameOk (tl s) = nameOk s.data.toList from rfl, this] at h; cases h
  · exact h5
theorem nameAt_get {xs : List Dt} {d : Nat} (h : d < xs.length) : nameAt xs (d : Int) = tl xs[d].name := by unfold nameAt; rw [Int.toNat_natCast, List.getElem?_eq_getElem h]; rfl
theorem nameAt_len {xs : List Dt} (hw : WorldOK xs) (d : Int) : (nameAt xs d).length ≤ 1 := by
  unfold nameAt
  split
  · rename_i x e
    have := dname_len (hw.all x (List.mem_of_getElem? e)).name
    rw [show x.name.data.toList.length = x.name.size from tl_len _]; omega
  · simp
theorem tyT_len {xs : List Dt} (hw : WorldOK xs) (t : Ty) : (tyT xs t).length ≤ 2 := by
  unfold tyT
  split
  · simp
  · rw [List.length_append]
    have := nameAt_len hw t.d
    have := idxT_len t.i
    omega
theorem argsT_len {xs : List Dt} (hw : WorldOK xs) : ∀ (l : List Ty) (b : Bool), (argsT xs b l).length ≤ 3 * l.length
  | [], _ => by simp [argsT]
  | a :: l, b => by
    rw [argsT, List.length_cons, List.length_append, List.length_cons]
    have := tyT_len hw a
    have := argsT_len hw l false
    omega
theorem closeT_len (c : Kt) : (closeT c).length ≤ 1 := by unfold closeT; split <;> simp
theorem endT_len (c : Kt) : (endT c).length ≤ 2 := by unfold endT; split <;> simp [digT]
theorem ktT_len {xs : List Dt} (hw : WorldOK xs) {c : Kt} (hc : KtOk xs.length c) : (ktT xs c).length ≤ 17 := by
  unfold ktT
  simp only [List.length_append]
  have h1 := nameOk_len hc.name
  rw [← tl_len] at h1
  have h2 := argsT_len hw c.args true
  have h3 := hc.args
  have h4 := closeT_len c
  have h5 := endT_len c
  have : (tl c.name).length = c.name.data.toList.length := rfl
  omega
theorem ktsT_len {xs : List Dt} (hw : WorldOK xs) : ∀ (l : List Kt) (b : Bool), (∀ c ∈ l, KtOk xs.length c) → (ktsT xs b l).length ≤ 18 * l.length
  | [], _, _ => by simp [ktsT]
  | c :: l, b, h => by
    rw [ktsT, List.length_append, List.length_append, List.length_cons]
    have := ktT_len hw (h c (by simp))
    have := ktsT_len hw l false fun c hc => h c (by simp [hc])
    have : (if b = true then ([] : List UInt8) else [124]).length ≤ 1 := by split <;> simp
    omega
theorem dtsT_len {xs : List Dt} (hw : WorldOK xs) : ∀ (l : List Dt) (b : Bool), (∀ x ∈ l, DtOk xs.length x) → (dtsT xs b l).length ≤ 100 * l.length
  | [], _, _ => by simp [dtsT]
  | x :: l, b, h => by
    rw [dtsT]
    simp only [List.length_append, List.length_cons]
    have hx := h x (by simp)
    have := ktsT_len hw x.ctors true hx.all
    have := hx.hi
    have := dtsT_len hw l false fun c hc => h c (by simp [hc])
    have h1 := dname_len hx.name
    rw [← tl_len] at h1
    have : (tl x.name).length = x.name.data.toList.length := rfl
    have : (if b = true then ([] : List UInt8) else [59]).length ≤ 1 := by split <;> simp
    omega
theorem textT_len {xs : List Dt} (hw : WorldOK xs) : (textT xs).length ≤ 400 := by
  have := dtsT_len hw xs true hw.all
  have := hw.len
  unfold textT
  omega
theorem bs_append (a b : List UInt8) : bs a ++ bs b = bs (a ++ b) := tl_inj (by rw [tl_append, tl_bs, tl_bs, tl_bs])
theorem argsT_step (xs : List Dt) (b : Bool) (l : List Ty) (i : Nat) (h : i < l.length) : argsT xs b (l.drop i) = (if b = true then 40 else 44) :: (tyT xs l[i] ++ argsT xs false (l.drop (i + 1))) := by rw [List.drop_eq_getElem_cons h, argsT]
theorem ktsT_step (xs : List Dt) (b : Bool) (l : List Kt) (i : Nat) (h : i < l.length) : ktsT xs b (l.drop i) = (if b = true then [] else [124]) ++ (ktT xs l[i] ++ ktsT xs false (l.drop (i + 1))) := by rw [List.drop_eq_getElem_cons h, ktsT]
theorem dtsT_step (xs : List Dt) (b : Bool) (l : List Dt) (i : Nat) (h : i < l.length) : dtsT xs b (l.drop i) = (if b = true then [] else [59]) ++ (l[i].name.data.toList ++ (61 :: (ktsT xs true l[i].ctors ++ dtsT xs false (l.drop (i + 1))))) := by rw [List.drop_eq_getElem_cons h, dtsT]
set_option maxRecDepth 100000 in
set_option maxHeartbeats 1600000 in
theorem spec_l17Dec (n : Int) (h0 : 0 ≤ n) (h9 : n ≤ 9) (w : World) : Calls Tryz.prog 27 #[.int .i64 n] w fun e w' => e = .returned (.string (bs (digT n))) ∧ Below w.heap.size w w' := by
  have t1 : decide (n < -9223372036854775807) = false := by simp; omega
  have t2 : decide (n < 0) = false := by simp; omega
  have t3 : decide (n > 9) = false := by simp; omega
  have hf := Lib.hid (strOf_dig n h0 h9)
  go_enter Tryz.func27, Tryz.ntmps27
  go_wp2
  go_loopw [0, 3] (fun nv ov wr => nv = .int .i64 n ∧ ov = .string ⟨#[]⟩ ∧ Below w.heap.size w wr) (fun _ _ _ => 0)
  case atStart => exact ⟨rfl, rfl, Below.refl _ _⟩
  case round =>
    obtain ⟨rfl, rfl, hB⟩ := hrel
    have hcv := conv1 wr (48 + n)
    have hsz : (strOfNums [48 + n]).size + 0 ≤ 9223372036854775807 := by rw [strOfNums_size]; simp
    go_wp2
    go_ret
    exact ⟨by rw [← hf.out]; rfl, hB.alloc hB.size _⟩
end Go.Proofs.YtilndhmegaccmaaGreatDoor

namespace Go.Proofs.YtilndhmegaccmaaGreatDoor
open Go.RowKit

theorem joinTail_nil (sep : List UInt8) : Lib.joinTail sep [] = [] := rfl
theorem joinTail_cons (sep x : List UInt8) (r : List (List UInt8)) : Lib.joinTail sep (x :: r) = sep ++ x ++ Lib.joinTail sep r := by simp [Lib.joinTail]
theorem join_of {α : Type} (f : α → List UInt8) (g : Bool → List α → List UInt8) (s : UInt8) (h0 : ∀ b, g b [] = []) (h1 : ∀ x l, g true (x :: l) = f x ++ g false l) (h2 : ∀ x l, g false (x :: l) = s :: (f x ++ g false l)) (l : List α) : Lib.join (l.map f) [s] = g true l := by
  have key : ∀ l : List α, Lib.joinTail [s] (l.map f) = g false l := by
    intro l
    induction l with
    | nil => rw [h0]; rfl
    | cons x l ih => rw [List.map_cons, joinTail_cons, ih, h2]; rfl
  cases l with
  | nil => rw [h0]; rfl
  | cons x l => rw [List.map_cons, Lib.join_cons, key, h1]
/-- texts in brackets, if there are any -/
def listedT (ls : List ByteArray) : List UInt8 := if ls = [] then [] else 40 :: (Lib.join (ls.map tl) [44] ++ [41])
def tyB (xs : List Dt) (t : Ty) : ByteArray := bs (tyT xs t)
def ktB (xs : List Dt) (c : Kt) : ByteArray := bs (ktT xs c)
def dtT (xs : List Dt) (x : Dt) : List UInt8 := tl x.name ++ (61 :: ktsT xs true x.ctors)
def dtB (xs : List Dt) (x : Dt) : ByteArray := bs (dtT xs x)
theorem map_tl_bs {α : Type} (f : α → List UInt8) (l : List α) : (l.map fun x => bs (f x)).map tl = l.map f := by rw [List.map_map]; rfl
theorem argsT_join (xs : List Dt) (a : Ty) (l : List Ty) : argsT xs true (a :: l) = 40 :: Lib.join ((a :: l).map (tyT xs)) [44] := by
  have h := join_of (tyT xs) (fun b l => if b = true then (match l with | [] => [] | x :: l => tyT xs x ++ argsT xs false l) else argsT xs false l) 44 (fun b => by cases b <;> rfl) (fun x l => rfl) (fun x l => rfl) (a :: l)
  rw [h]; rfl
theorem listedT_args (xs : List Dt) (c : Kt) : listedT (c.args.map (tyB xs)) = argsT xs true c.args ++ closeT c := by
  unfold listedT closeT tyB
  cases hl : c.args with
  | nil => rfl
  | cons a l =>
    rw [if_neg (by simp), if_pos (by simp), map_tl_bs, argsT_join]
    rfl
theorem ktT_listed (xs : List Dt) (c : Kt) : tl c.name ++ (listedT (c.args.map (tyB xs)) ++ endT c) = ktT xs c := by
  rw [listedT_args]; unfold ktT; rw [List.append_assoc]; rfl
theorem ktsT_join (xs : List Dt) (l : List Kt) : Lib.join ((l.map (ktB xs)).map tl) [124] = ktsT xs true l := by
  unfold ktB
  rw [map_tl_bs]
  exact join_of (ktT xs) (ktsT xs) 124 (fun b => by cases b <;> rfl) (fun x l => by simp [ktsT]) (fun x l => by simp [ktsT]) l
theorem textT_join (xs : List Dt) (l : List Dt) : Lib.join ((l.map (dtB xs)).map tl) [59] = dtsT xs true l := by
  unfold dtB
  rw [map_tl_bs]
  exact join_of (dtT xs) (dtsT xs) 59 (fun b => by cases b <;> rfl) (fun x l => by simp [dtsT, dtT, tl]) (fun x l => by simp [dtsT, dtT, tl]) l
theorem dtT_kts (xs : List Dt) (x : Dt) : tl x.name ++ (61 :: Lib.join ((x.ctors.map (ktB xs)).map tl) [124]) = dtT xs x := by rw [ktsT_join]; rfl
end Go.Proofs.YtilndhmegaccmaaGreatDoor

namespace Go.Proofs.YtilndhmegaccmaaGreatDoor
open Go.RowKit

theorem info_tyE : (Tryz.prog.info? 33).map (fun i => (i.zero, i.size, i.bytes)) = some (some (.agg #[.int .i64 0, .int .i64 0]), 2, 16) := by kernel_rfl
def GivesTys (w : World) (ts : List Ty) (e : Ending) (w' : World) : Prop := MadeArr TyR w ts e w'
theorem TyR_nilF (w : World) (x : Ty) (cs : List Value) (F : List Nat) (h : TyR w x cs F) : F = [] := h.2
theorem TyR_mono' (w w' : World) (x : Ty) (cs : List Value) (F : List Nat) (_ : Kept F w w') (h : TyR w x cs F) : TyR w' x cs F := h
theorem TyR_len' (w : World) (x : Ty) (cs : List Value) (F : List Nat) (h : TyR w x cs F) : cs.length = 2 := TyR_len x cs F h
theorem Own.tys {w0 w : World} {B : Nat} {E : TypeId} {xs : List Ty} {v : Value} (h : Own w B E 2 TyR xs v []) (hb : Below w0.heap.size w0 w) (hB : w0.heap.size ≤ B) : GivesTys w0 xs (.returned v) w :=
  h.gives hb hB (fun b hb => by cases hb) (Free.nil _)
end Go.Proofs.YtilndhmegaccmaaGreatDoor

namespace Go.Proofs.YtilndhmegaccmaaGreatDoor
open Go.RowKit

/-- the index of what a constructor makes for a type with index i -/
def resIdx (c : Kt) (i : Int) : Int := if (c.idx == 0) = true then i else c.idx
def argTy (r : Int) (a : Ty) : Ty := if (a.i == -1) = true then ⟨a.d, r⟩ else a
def argsL (c : Kt) (i : Int) : List Ty := c.args.map (argTy (resIdx c i))
theorem argTy_yes {r : Int} {a : Ty} (h : (a.i == -1) = true) : argTy r a = ⟨a.d, r⟩ := if_pos h
theorem argTy_no {r : Int} {a : Ty} (h : (a.i == -1) = false) : argTy r a = a := if_neg (by simp [h])
def argsTo (r : Int) (l : List Ty) (j : Nat) : List Ty := (l.take j).map (argTy r)
theorem argsTo_len (r : Int) (l : List Ty) (j : Nat) : (argsTo r l j).length ≤ j := by unfold argsTo; rw [List.length_map, List.length_take]; omega
theorem argsTo_all (r : Int) (l : List Ty) {j : Nat} (h : l.length ≤ j) : argsTo r l j = l.map (argTy r) := by unfold argsTo; rw [List.take_of_length_le h]
theorem argsTo_succ (r : Int) (l : List Ty) (j : Nat) (h : j < l.length) : argsTo r l (j + 1) = argsTo r l j ++ [argTy r l[j]] := by unfold argsTo; rw [take_snoc' l j h, List.map_append]; rfl
theorem argsL_len (c : Kt) (i : Int) : (argsL c i).length = c.args.length := List.length_map _
theorem map_take_succ {α β : Type} (f : α → β) (l : List α) (j : Nat) (h : j < l.length) : (l.take (j + 1)).map f = (l.take j).map f ++ [f l[j]] := by rw [take_snoc' l j h, List.map_append]; rfl
set_option maxRecDepth 100000 in
set_option maxHeartbeats 1600000 in
theorem impl_argTypes (xs : List Dt) (d k : Nat) (i : Int) (hd : d < xs.length) (hk : k < xs[d].ctors.length) (w : World) (v : Value) (F : List Nat) (hx : Arr w (DtR w) xs v F) (hf : Under w.heap.size F) (hal : xs[d].ctors[k].args.length ≤ 3) :
    Calls Tryz.prog 70 #[v, .agg #[.int .i64 (d : Int), .int .i64 i], .int .i64 (k : Int)] w (GivesTys w (argsL xs[d].ctors[k] i)) := by
  obtain ⟨A, cap, rfl, hc1, hc2⟩ := hx.form
  obtain ⟨b, off, rfl⟩ := hx.ptr (by omega)
  have HX := Lib.hid hx
  have HF := Lib.hid hf
  clear hx hf
  obtain ⟨i0, hi, hz0, hz1, hz2⟩ := info_parts info_tyE
  have HI := Lib.hid hi
  have HZ0 := Lib.hid hz0
  have HZ1 := Lib.hid hz1
  have HZ2 := Lib.hid hz2
  clear hi hz0 hz1 hz2
  have hB1 : Below w.heap.size w (w.alloc (.cells #[.int .i64 (d : Int), .int .i64 i] 33)) := (Below.refl _ _).alloc (Nat.le_refl _) _
  obtain ⟨A1, cap1, G1, hb, c0, c1, HK, HG, -, hn1, hn2⟩ := ArrDt.at HX.out HF.out hB1 d hd
  clear c0
  obtain ⟨b2, off2, rfl⟩ := HK.out.ptr (by omega)
  obtain ⟨A3, cap3, G3, hb3, k0, k1, k2, HC, HG3, -, hn3, hn4⟩ := ArrKt.at HK.out HG.out hB1 k hk
  have g1 : (0 : Int) ≤ (d : Int) := by omega
  have g2 : (d : Int) < (xs.length : Int) := by omega
  have g3 : (0 : Int) ≤ (k : Int) := by omega
  have g4 : (k : Int) < (xs[d].ctors.length : Int) := by omega
  have hB2 : Below w.heap.size w ((w.alloc (.cells #[.int .i64 (d : Int), .int .i64 i] 33)).alloc (.cells #[.string xs[d].ctors[k].name, .slice A3 xs[d].ctors[k].args.length cap3, .int .i64 xs[d].ctors[k].idx] 60)) := hB1.alloc (by simp) _
  clear hB1
  cases q : (xs[d].ctors[k].idx == 0) with
  | true =>
    have HRI : Hid (resIdx xs[d].ctors[k] i = i) := if_pos q
    go_enter Tryz.func70, Tryz.ntmps70
    go_wp2
    clear q c1 k0 k1 k2 hb hb3
    go_loopw [9, 30] (fun ov jv wr => ∃ j : Nat, j ≤ xs[d].ctors[k].args.length ∧ jv = .int .i64 j ∧ Hid (Own wr (w.heap.size + 2) 33 2 TyR (argsTo (i) xs[d].ctors[k].args j) ov []) ∧ Below w.heap.size w wr ∧ w.heap.size + 2 ≤ wr.heap.size) (fun _ jv _ => xs[d].ctors[k].args.length - (intOf jv).toNat)
    case atStart => exact ⟨0, Nat.zero_le _, rfl, (show Own _ _ _ _ _ [] _ _ from Own.nil _ _ _ _ _), hB2, by simp⟩
    case round =>
      clear hB2
      obtain ⟨j, hj, rfl, HO, hB, hsz⟩ := hrel
      by_cases hjl : j < xs[d].ctors[k].args.length
      · obtain ⟨b3, off3, rfl⟩ := HC.out.ptr (by omega)
        obtain ⟨hb4, a0, a1⟩ := ArrTy.at HC.out HG3.out hB j hjl
        have g5 : (0 : Int) ≤ (j : Int) := by omega
        have g6 : (j : Int) < (xs[d].ctors[k].args.length : Int) := by omega
        cases q2 : (xs[d].ctors[k].args[j].i == -1) with
        | true =>
          have HF2 := Lib.hid ((argsTo_succ (i) xs[d].ctors[k].args j hjl).trans (by rw [argTy_yes q2]))
          have hb1 : Below wr.heap.size wr (wr.alloc (.cells #[.int .i64 xs[d].ctors[k].args[j].d, .int .i64 (i)] 33)) := (Below.refl _ _).alloc (Nat.le_refl _) _
          have hB1 := hB.trans (hb1.mono hB.size)
          have HO1 := Lib.hid (HO.out.below (fun x cs G hk h => TyR_mono' _ _ x cs G hk h) hb1)
          have hbs : w.heap.size + 2 ≤ (wr.alloc (.cells #[.int .i64 xs[d].ctors[k].args[j].d, .int .i64 (i)] 33)).heap.size := Nat.le_trans hsz hb1.size
          go_wp2_with (at_builtin; refine Halt.mk ?_)
          refine Halt.of (wpList_push1 (P := Tryz.prog) rfl _ _ 58 rfl i0 _ 16 Tryz.underlying58 HI.out HZ0.out HZ1.out HZ2.out rfl (by decide) TyR_len' TyR_mono' (by rfl) HO1.out ⟨xs[d].ctors[k].args[j].d, i⟩ 33 [.int .i64 (xs[d].ctors[k].args[j].d), .int .i64 (i)] [] _ (by rfl) (by simp) (by simp [Value.oneCell']) ⟨rfl, rfl⟩ (Under.nil _) (fun _ _ h => by cases h) (by have := argsTo_len (i) xs[d].ctors[k].args j; unfold maxLen; omega) (by have := argsTo_len (i) xs[d].ctors[k].args j; omega) hbs ?_)
          intro g cp w3 hown3 hgr3 hat3
          have hrow := HO1.out.row
          have hB3 : Below w.heap.size w w3 := (hB1.alloc hB1.size _).grown hgr3 (by have := hB1.size; simp; omega) (fun g hg => by have := hrow g (mem_rowOf.2 hg); omega)
          have HO3 := Lib.hid hown3
          have hsz3 : w.heap.size + 2 ≤ w3.heap.size := by have := hgr3.size; simp at this; omega
          clear hown3 hgr3 hat3 hrow
          go_wp2
          go_roundw
          case rel => exact ⟨j + 1, by omega, by go_num, (by rw [HF2.out]; exact HO3.out), hB3, hsz3⟩
          case measure => (simp [intOf] <;> omega)
        | false =>
          have HF2 := Lib.hid ((argsTo_succ (i) xs[d].ctors[k].args j hjl).trans (by rw [argTy_no q2]))
          have hb1 : Below wr.heap.size wr (wr.alloc (.cells #[.int .i64 xs[d].ctors[k].args[j].d, .int .i64 xs[d].ctors[k].args[j].i] 33)) := (Below.refl _ _).alloc (Nat.le_refl _) _
          have hB1 := hB.trans (hb1.mono hB.size)
          have HO1 := Lib.hid (HO.out.below (fun x cs G hk h => TyR_mono' _ _ x cs G hk h) hb1)
          have hbs : w.heap.size + 2 ≤ (wr.alloc (.cells #[.int .i64 xs[d].ctors[k].args[j].d, .int .i64 xs[d].ctors[k].args[j].i] 33)).heap.size := Nat.le_trans hsz hb1.size
          go_wp2_with (at_builtin; refine Halt.mk ?_)
          refine Halt.of (wpList_push1 (P := Tryz.prog) rfl _ _ 58 rfl i0 _ 16 Tryz.underlying58 HI.out HZ0.out HZ1.out HZ2.out rfl (by decide) TyR_len' TyR_mono' (by rfl) HO1.out ⟨xs[d].ctors[k].args[j].d, xs[d].ctors[k].args[j].i⟩ 33 [.int .i64 (xs[d].ctors[k].args[j].d), .int .i64 (xs[d].ctors[k].args[j].i)] [] _ (by rfl) (by simp) (by simp [Value.oneCell']) ⟨rfl, rfl⟩ (Under.nil _) (fun _ _ h => by cases h) (by have := argsTo_len (i) xs[d].ctors[k].args j; unfold maxLen; omega) (by have := argsTo_len (i) xs[d].ctors[k].args j; omega) hbs ?_)
          intro g cp w3 hown3 hgr3 hat3
          have hrow := HO1.out.row
          have hB3 : Below w.heap.size w w3 := (hB1.alloc hB1.size _).grown hgr3 (by have := hB1.size; simp; omega) (fun g hg => by have := hrow g (mem_rowOf.2 hg); omega)
          have HO3 := Lib.hid hown3
          have hsz3 : w.heap.size + 2 ≤ w3.heap.size := by have := hgr3.size; simp at this; omega
          clear hown3 hgr3 hat3 hrow
          go_wp2
          go_roundw
          case rel => exact ⟨j + 1, by omega, by go_num, (by rw [HF2.out]; exact HO3.out), hB3, hsz3⟩
          case measure => (simp [intOf] <;> omega)
      · have hfin : GivesTys w (argsL xs[d].ctors[k] i) (.returned u9) wr := by
          unfold argsL
          rw [HRI.out]
          have h := HO.out
          rw [argsTo_all _ _ (by omega)] at h
          exact h.tys hB (by omega)
        have HFin := Lib.hid hfin
        clear hfin
        go_wp2
        go_ret
        exact HFin.out
  | false =>
    have HRI : Hid (resIdx xs[d].ctors[k] i = xs[d].ctors[k].idx) := if_neg (by simp [q])
    go_enter Tryz.func70, Tryz.ntmps70
    go_wp2
    clear q c1 k0 k1 k2 hb hb3
    go_loopw [9, 30] (fun ov jv wr => ∃ j : Nat, j ≤ xs[d].ctors[k].args.length ∧ jv = .int .i64 j ∧ Hid (Own wr (w.heap.size + 2) 33 2 TyR (argsTo (xs[d].ctors[k].idx) xs[d].ctors[k].args j) ov []) ∧ Below w.heap.size w wr ∧ w.heap.size + 2 ≤ wr.heap.size) (fun _ jv _ => xs[d].ctors[k].args.length - (intOf jv).toNat)
    case atStart => exact ⟨0, Nat.zero_le _, rfl, (show Own _ _ _ _ _ [] _ _ from Own.nil _ _ _ _ _), hB2, by simp⟩
    case round =>
      clear hB2
      obtain ⟨j, hj, rfl, HO, hB, hsz⟩ := hrel
      by_cases hjl : j < xs[d].ctors[k].args.length
      · obtain ⟨b3, off3, rfl⟩ := HC.out.ptr (by omega)
        obtain ⟨hb4, a0, a1⟩ := ArrTy.at HC.out HG3.out hB j hjl
        have g5 : (0 : Int) ≤ (j : Int) := by omega
        have g6 : (j : Int) < (xs[d].ctors[k].args.length : Int) := by omega
        cases q2 : (xs[d].ctors[k].args[j].i == -1) with
        | true =>
          have HF2 := Lib.hid ((argsTo_succ (xs[d].ctors[k].idx) xs[d].ctors[k].args j hjl).trans (by rw [argTy_yes q2]))
          have hb1 : Below wr.heap.size wr (wr.alloc (.cells #[.int .i64 xs[d].ctors[k].args[j].d, .int .i64 (xs[d].ctors[k].idx)] 33)) := (Below.refl _ _).alloc (Nat.le_refl _) _
          have hB1 := hB.trans (hb1.mono hB.size)
          have HO1 := Lib.hid (HO.out.below (fun x cs G hk h => TyR_mono' _ _ x cs G hk h) hb1)
          have hbs : w.heap.size + 2 ≤ (wr.alloc (.cells #[.int .i64 xs[d].ctors[k].args[j].d, .int .i64 (xs[d].ctors[k].idx)] 33)).heap.size := Nat.le_trans hsz hb1.size
          go_wp2_with (at_builtin; refine Halt.mk ?_)
          refine Halt.of (wpList_push1 (P := Tryz.prog) rfl _ _ 58 rfl i0 _ 16 Tryz.underlying58 HI.out HZ0.out HZ1.out HZ2.out rfl (by decide) TyR_len' TyR_mono' (by rfl) HO1.out ⟨xs[d].ctors[k].args[j].d, xs[d].ctors[k].idx⟩ 33 [.int .i64 (xs[d].ctors[k].args[j].d), .int .i64 (xs[d].ctors[k].idx)] [] _ (by rfl) (by simp) (by simp [Value.oneCell']) ⟨rfl, rfl⟩ (Under.nil _) (fun _ _ h => by cases h) (by have := argsTo_len (xs[d].ctors[k].idx) xs[d].ctors[k].args j; unfold maxLen; omega) (by have := argsTo_len (xs[d].ctors[k].idx) xs[d].ctors[k].args j; omega) hbs ?_)
          intro g cp w3 hown3 hgr3 hat3
          have hrow := HO1.out.row
          have hB3 : Below w.heap.size w w3 := (hB1.alloc hB1.size _).grown hgr3 (by have := hB1.size; simp; omega) (fun g hg => by have := hrow g (mem_rowOf.2 hg); omega)
          have HO3 := Lib.hid hown3
          have hsz3 : w.heap.size + 2 ≤ w3.heap.size := by have := hgr3.size; simp at this; omega
          clear hown3 hgr3 hat3 hrow
          go_wp2
          go_roundw
          case rel => exact ⟨j + 1, by omega, by go_num, (by rw [HF2.out]; exact HO3.out), hB3, hsz3⟩
          case measure => (simp [intOf] <;> omega)
        | false =>
          have HF2 := Lib.hid ((argsTo_succ (xs[d].ctors[k].idx) xs[d].ctors[k].args j hjl).trans (by rw [argTy_no q2]))
          have hb1 : Below wr.heap.size wr (wr.alloc (.cells #[.int .i64 xs[d].ctors[k].args[j].d, .int .i64 xs[d].ctors[k].args[j].i] 33)) := (Below.refl _ _).alloc (Nat.le_refl _) _
          have hB1 := hB.trans (hb1.mono hB.size)
          have HO1 := Lib.hid (HO.out.below (fun x cs G hk h => TyR_mono' _ _ x cs G hk h) hb1)
          have hbs : w.heap.size + 2 ≤ (wr.alloc (.cells #[.int .i64 xs[d].ctors[k].args[j].d, .int .i64 xs[d].ctors[k].args[j].i] 33)).heap.size := Nat.le_trans hsz hb1.size
          go_wp2_with (at_builtin; refine Halt.mk ?_)
          refine Halt.of (wpList_push1 (P := Tryz.prog) rfl _ _ 58 rfl i0 _ 16 Tryz.underlying58 HI.out HZ0.out HZ1.out HZ2.out rfl (by decide) TyR_len' TyR_mono' (by rfl) HO1.out ⟨xs[d].ctors[k].args[j].d, xs[d].ctors[k].args[j].i⟩ 33 [.int .i64 (xs[d].ctors[k].args[j].d), .int .i64 (xs[d].ctors[k].args[j].i)] [] _ (by rfl) (by simp) (by simp [Value.oneCell']) ⟨rfl, rfl⟩ (Under.nil _) (fun _ _ h => by cases h) (by have := argsTo_len (xs[d].ctors[k].idx) xs[d].ctors[k].args j; unfold maxLen; omega) (by have := argsTo_len (xs[d].ctors[k].idx) xs[d].ctors[k].args j; omega) hbs ?_)
          intro g cp w3 hown3 hgr3 hat3
          have hrow := HO1.out.row
          have hB3 : Below w.heap.size w w3 := (hB1.alloc hB1.size _).grown hgr3 (by have := hB1.size; simp; omega) (fun g hg => by have := hrow g (mem_rowOf.2 hg); omega)
          have HO3 := Lib.hid hown3
          have hsz3 : w.heap.size + 2 ≤ w3.heap.size := by have := hgr3.size; simp at this; omega
          clear hown3 hgr3 hat3 hrow
          go_wp2
          go_roundw
          case rel => exact ⟨j + 1, by omega, by go_num, (by rw [HF2.out]; exact HO3.out), hB3, hsz3⟩
          case measure => (simp [intOf] <;> omega)
      · have hfin : GivesTys w (argsL xs[d].ctors[k] i) (.returned u9) wr := by
          unfold argsL
          rw [HRI.out]
          have h := HO.out
          rw [argsTo_all _ _ (by omega)] at h
          exact h.tys hB (by omega)
        have HFin := Lib.hid hfin
        clear hfin
        go_wp2
        go_ret
        exact HFin.out
end Go.Proofs.YtilndhmegaccmaaGreatDoor

namespace Go.Proofs.YtilndhmegaccmaaGreatDoor
open Go.RowKit

set_option maxRecDepth 100000 in
set_option maxHeartbeats 1600000 in
theorem spec_l1Result (c : Kt) (i : Int) (A : Option Addr) (n cap : Nat) (w : World) : Calls Tryz.prog 43 #[.agg #[.string c.name, .slice A n cap, .int .i64 c.idx], .int .i64 i] w fun e w' => e = .returned (.int .i64 (resIdx c i)) ∧ Below w.heap.size w w' := by
  cases q : (c.idx == 0) with
  | true =>
    have hf : Hid (resIdx c i = i) := if_pos q
    go_enter Tryz.func43, Tryz.ntmps43
    go_wp2
    go_ret
    exact ⟨ret_int hf.out.symm, (Below.refl _ _).alloc (Nat.le_refl _) _⟩
  | false =>
    have hf : Hid (resIdx c i = c.idx) := if_neg (by simp [q])
    go_enter Tryz.func43, Tryz.ntmps43
    go_wp2
    go_ret
    exact ⟨ret_int hf.out.symm, (Below.refl _ _).alloc (Nat.le_refl _) _⟩
set_option maxRecDepth 100000 in
set_option maxHeartbeats 1600000 in
theorem spec_l1Args (xs : List Dt) (d k : Nat) (i : Int) (hd : d < xs.length) (hk : k < xs[d].ctors.length) (w : World) (v : Value) (F : List Nat) (hx : Arr w (DtR w) xs v F) (hf : Under w.heap.size F) (hal : xs[d].ctors[k].args.length ≤ 3) :
    Calls Tryz.prog 28 #[v, .agg #[.int .i64 (d : Int), .int .i64 i], .int .i64 (k : Int)] w (GivesTys w (argsL xs[d].ctors[k] i)) := by
  obtain ⟨A, cap, rfl, hc1, hc2⟩ := hx.form
  obtain ⟨b, off, rfl⟩ := hx.ptr (by omega)
  have HX := Lib.hid hx
  have HF := Lib.hid hf
  clear hx hf
  obtain ⟨i0, hi, hz0, hz1, hz2⟩ := info_parts info_tyE
  have HI := Lib.hid hi
  have HZ0 := Lib.hid hz0
  have HZ1 := Lib.hid hz1
  have HZ2 := Lib.hid hz2
  clear hi hz0 hz1 hz2
  have hB0 : Below w.heap.size w ((w.alloc (.cells #[.int .i64 (d : Int), .int .i64 i] 33)).alloc (.cells #[] 33)) := ((Below.refl _ _).alloc (Nat.le_refl _) _).alloc (by simp) _
  obtain ⟨A1, cap1, G1, hb, c0, c1, HK, HG, -, hn1, hn2⟩ := ArrDt.at HX.out HF.out hB0 d hd
  clear c0
  obtain ⟨b2, off2, rfl⟩ := HK.out.ptr (by omega)
  obtain ⟨A3, cap3, G3, hb3, k0, k1, k2, HC, HG3, -, hn3, hn4⟩ := ArrKt.at HK.out HG.out hB0 k hk
  have g1 : (0 : Int) ≤ (d : Int) := by omega
  have g2 : (d : Int) < (xs.length : Int) := by omega
  have g3 : (0 : Int) ≤ (k : Int) := by omega
  have g4 : (k : Int) < (xs[d].ctors.length : Int) := by omega
  have HL := Lib.hid hal
  go_enter Tryz.func28, Tryz.ntmps28
  go_wp2
  clear c1 k0 k1 k2 hb hb3
  have hB2 : Below w.heap.size w (((w.alloc (.cells #[.int .i64 (d : Int), .int .i64 i] 33)).alloc (.cells #[] 33)).alloc (.cells #[.string xs[d].ctors[k].name, .slice A3 xs[d].ctors[k].args.length cap3, .int .i64 xs[d].ctors[k].idx] 60)) := hB0.alloc (by simp; omega) _
  have KT0 : Hid (Blk (((w.alloc (.cells #[.int .i64 (d : Int), .int .i64 i] 33)).alloc (.cells #[] 33)).alloc (.cells #[.string xs[d].ctors[k].name, .slice A3 xs[d].ctors[k].args.length cap3, .int .i64 xs[d].ctors[k].idx] 60)) w.heap.size 33 #[.int .i64 (d : Int), .int .i64 i]) := ((Blk.new _ _ _).same (Below.heap_alloc _ _ _ (by simp))).same (Below.heap_alloc _ _ _ (by simp; omega))
  have KC0 : Hid (Blk (((w.alloc (.cells #[.int .i64 (d : Int), .int .i64 i] 33)).alloc (.cells #[] 33)).alloc (.cells #[.string xs[d].ctors[k].name, .slice A3 xs[d].ctors[k].args.length cap3, .int .i64 xs[d].ctors[k].idx] 60)) (w.heap.size + 2) 60 #[.string xs[d].ctors[k].name, .slice A3 xs[d].ctors[k].args.length cap3, .int .i64 xs[d].ctors[k].idx]) := by
    have h := Blk.new ((w.alloc (.cells #[.int .i64 (d : Int), .int .i64 i] 33)).alloc (.cells #[] 33)) 60 #[.string xs[d].ctors[k].name, .slice A3 xs[d].ctors[k].args.length cap3, .int .i64 xs[d].ctors[k].idx]
    rw [show ((w.alloc (.cells #[.int .i64 (d : Int), .int .i64 i] 33)).alloc (.cells #[] 33)).heap.size = w.heap.size + 2 from by simp] at h
    exact h
  have HO0 : Hid (Own (((w.alloc (.cells #[.int .i64 (d : Int), .int .i64 i] 33)).alloc (.cells #[] 33)).alloc (.cells #[.string xs[d].ctors[k].name, .slice A3 xs[d].ctors[k].args.length cap3, .int .i64 xs[d].ctors[k].idx] 60)) (w.heap.size + 1) 33 2 TyR ([] : List Ty) (.slice (some ⟨w.heap.size + 1, 0, none⟩) 0 0) []) := by
    have h := Own.made (w.alloc (.cells #[.int .i64 (d : Int), .int .i64 i] 33)) (w.heap.size + 1) 33 2 TyR #[] 0 (by simp) (by simp [maxLen]) rfl
    rw [World.size_alloc] at h
    exact h.below (fun x cs G hk h => TyR_mono' _ _ x cs G hk h) ((Below.refl _ _).alloc (Nat.le_refl _) _)
  go_loopw [7, 9] (fun ov jv wr => ∃ j : Nat, j ≤ xs[d].ctors[k].args.length ∧ jv = .int .i64 j ∧ Hid (Own wr (w.heap.size + 1) 33 2 TyR (argsTo (resIdx xs[d].ctors[k] i) xs[d].ctors[k].args j) ov []) ∧ Below w.heap.size w wr ∧ Hid (Blk wr w.heap.size 33 #[.int .i64 (d : Int), .int .i64 i]) ∧ Hid (Blk wr (w.heap.size + 2) 60 #[.string xs[d].ctors[k].name, .slice A3 xs[d].ctors[k].args.length cap3, .int .i64 xs[d].ctors[k].idx]) ∧ Hid (∀ g' ∈ rowOf ov, g' = w.heap.size + 1 ∨ w.heap.size + 3 ≤ g')) (fun _ jv _ => xs[d].ctors[k].args.length - (intOf jv).toNat)
  case atStart => exact ⟨0, Nat.zero_le _, rfl, HO0, hB2, KT0, KC0, fun g' hg' => by rw [rowOf_some, List.mem_singleton] at hg'; exact .inl hg'⟩
  case round =>
    clear hB2 hB0 KT0 KC0 HO0
    obtain ⟨j, hj, rfl, HO, hB, KT, KC, HN⟩ := hrel
    have y1 : wr.cell? ⟨w.heap.size, 1, none⟩ = some (.int .i64 i) := (KT.out.cell 1).trans (by simp)
    have q0 : wr.cell? ⟨w.heap.size + 2, 0, none⟩ = some (.string xs[d].ctors[k].name) := (KC.out.cell 0).trans (by simp)
    have q1 : wr.cell? ⟨w.heap.size + 2, 1, none⟩ = some (.slice A3 xs[d].ctors[k].args.length cap3) := (KC.out.cell 1).trans (by simp)
    have q2 : wr.cell? ⟨w.heap.size + 2, 2, none⟩ = some (.int .i64 xs[d].ctors[k].idx) := (KC.out.cell 2).trans (by simp)
    have hsz := KC.out.lt
    have hsz0 := KT.out.lt
    by_cases hjl : j < xs[d].ctors[k].args.length
    · obtain ⟨b3, off3, rfl⟩ := HC.out.ptr (by omega)
      obtain ⟨hb4, a0, a1⟩ := ArrTy.at HC.out HG3.out hB j hjl
      have g5 : (0 : Int) ≤ (j : Int) := by omega
      have g6 : (j : Int) < (xs[d].ctors[k].args.length : Int) := by omega
      have hbx : Below wr.heap.size wr (wr.alloc (.cells #[.int .i64 xs[d].ctors[k].args[j].d, .int .i64 xs[d].ctors[k].args[j].i] 33)) := (Below.refl _ _).alloc (Nat.le_refl _) _
      have hBx := hB.trans (hbx.mono hB.size)
      have HOx := Lib.hid (HO.out.below (fun x cs G hk h => TyR_mono' _ _ x cs G hk h) hbx)
      have KTx := Lib.hid (KT.out.same (hbx.block _ KT.out.lt))
      have KCx := Lib.hid (KC.out.same (hbx.block _ KC.out.lt))
      cases q3 : (xs[d].ctors[k].args[j].i == -1) with
      | true =>
        have HF2 := Lib.hid ((argsTo_succ (resIdx xs[d].ctors[k] i) xs[d].ctors[k].args j hjl).trans (by rw [argTy_yes q3]))
        have KX := Lib.hid (Blk.new wr 33 #[.int .i64 xs[d].ctors[k].args[j].d, .int .i64 xs[d].ctors[k].args[j].i])
        go_wp2_with fail
        obtain ⟨W4, hW4⟩ : ∃ W4, W4 = wr.alloc (.cells #[.int .i64 xs[d].ctors[k].args[j].d, .int .i64 xs[d].ctors[k].args[j].i] 33) := ⟨_, rfl⟩
        rw [← hW4] at hbx hBx HOx KTx KCx KX ⊢
        clear hW4
        refine (spec_l1Result xs[d].ctors[k] i _ _ _ W4).mono ?_
        rintro e w4 ⟨rfl, hb4'⟩
        have hB4 := hBx.trans (hb4'.mono hBx.size)
        have HO4 := Lib.hid (HOx.out.below (fun x cs G hk h => TyR_mono' _ _ x cs G hk h) hb4')
        have KT4 := Lib.hid (KTx.out.same (hb4'.block _ KTx.out.lt))
        have KC4 := Lib.hid (KCx.out.same (hb4'.block _ KCx.out.lt))
        have k4 := KX.out.same (hb4'.block _ KX.out.lt)
        have z0 : w4.cell? ⟨wr.heap.size, 0, none⟩ = some (.int .i64 xs[d].ctors[k].args[j].d) := (k4.cell 0).trans (by simp)
        have z1 : w4.cell? ⟨wr.heap.size, 1, none⟩ = some (.int .i64 xs[d].ctors[k].args[j].i) := (k4.cell 1).trans (by simp)
        have zf := k4.frozen 1
        have hz4 := k4.lt
        have hrw := HO4.out.row
        have hrow0 := HO.out.row
        have hB1 : Below w.heap.size w (w4.setCell ⟨wr.heap.size, 1, none⟩ (.int .i64 (resIdx xs[d].ctors[k] i))) := hB4.setCell (by show w.heap.size ≤ wr.heap.size; omega) _
        have HO1 := Lib.hid (Own.set (j := 1) (b := wr.heap.size) TyR_mono' HO4.out (.int .i64 (resIdx xs[d].ctors[k] i)) (fun h => by have := (hrow0 _ h).2; omega) (fun h => by cases h))
        have KT1 : Hid (Blk (w4.setCell ⟨wr.heap.size, 1, none⟩ (.int .i64 (resIdx xs[d].ctors[k] i))) w.heap.size 33 #[.int .i64 (d : Int), .int .i64 i]) := KT4.out.same (Below.heap_setCell _ _ _ _ (by show w.heap.size ≠ wr.heap.size; omega))
        have KC1 : Hid (Blk (w4.setCell ⟨wr.heap.size, 1, none⟩ (.int .i64 (resIdx xs[d].ctors[k] i))) (w.heap.size + 2) 60 #[.string xs[d].ctors[k].name, .slice (some ⟨b3, off3, none⟩) xs[d].ctors[k].args.length cap3, .int .i64 xs[d].ctors[k].idx]) := KC4.out.same (Below.heap_setCell _ _ _ _ (by show w.heap.size + 2 ≠ wr.heap.size; omega))
        have hbs : w.heap.size + 1 ≤ (w4.setCell ⟨wr.heap.size, 1, none⟩ (.int .i64 (resIdx xs[d].ctors[k] i))).heap.size := Nat.le_of_lt (Nat.lt_of_le_of_lt (Nat.le_add_right _ 1) KC1.out.lt)
        have hbs3 : w.heap.size + 3 ≤ (w4.setCell ⟨wr.heap.size, 1, none⟩ (.int .i64 (resIdx xs[d].ctors[k] i))).heap.size := KC1.out.lt
        have hrow2 := HN.out
        clear hbx hBx HOx KTx KCx KX k4 hrw hrow0 y1 q0 q1 q2 a0 a1
        generalize hrr : resIdx xs[d].ctors[k] i = rr at *
        have HRR := Lib.hid hrr
        clear hrr
        go_wp2_with (at_builtin; refine Halt.mk ?_)
        refine Halt.of (wpList_push1 (P := Tryz.prog) rfl _ _ 58 rfl i0 _ 16 Tryz.underlying58 HI.out HZ0.out HZ1.out HZ2.out rfl (by decide) TyR_len' TyR_mono' (by rfl) HO1.out ⟨xs[d].ctors[k].args[j].d, rr⟩ 33 [.int .i64 (xs[d].ctors[k].args[j].d), .int .i64 (rr)] [] _ (by rfl) (by simp) (by simp [Value.oneCell']) ⟨rfl, rfl⟩ (Under.nil _) (fun _ _ h => by cases h) (by have := argsTo_len (rr) xs[d].ctors[k].args j; unfold maxLen; omega) (by have := argsTo_len (rr) xs[d].ctors[k].args j; omega) hbs ?_)
        intro g cp w3 hown3 hgr3 hat3
        have hrow := HO1.out.row
        have hB3 : Below w.heap.size w w3 := (hB1.alloc hB1.size _).grown hgr3 (by have := hB1.size; simp; omega) (fun g hg => by have := hrow g (mem_rowOf.2 hg); omega)
        have HO3 := Lib.hid hown3
        have KT3 : Hid (Blk w3 w.heap.size 33 #[.int .i64 (d : Int), .int .i64 i]) := (KT1.out.same (Below.heap_alloc _ _ _ KT1.out.lt)).same (hgr3.block _ (by have := KT1.out.lt; simp; omega) (fun e => by have := hrow _ (mem_rowOf.2 e.symm); omega))
        have KC3 : Hid (Blk w3 (w.heap.size + 2) 60 #[.string xs[d].ctors[k].name, .slice (some ⟨b3, off3, none⟩) xs[d].ctors[k].args.length cap3, .int .i64 xs[d].ctors[k].idx]) := (KC1.out.same (Below.heap_alloc _ _ _ KC1.out.lt)).same (hgr3.block _ (by have := KC1.out.lt; simp; omega) (fun e => by have := hrow2 _ (mem_rowOf.2 e.symm); omega))
        have hne3 : ∀ g' ∈ rowOf (.slice (some ⟨g, 0, none⟩) ((argsTo (rr) xs[d].ctors[k].args j).length + 1) cp), g' = w.heap.size + 1 ∨ w.heap.size + 3 ≤ g' := fun g' hg' => by
          rw [rowOf_some, List.mem_singleton] at hg'
          subst hg'
          rcases hat3 with h | h
          · exact hrow2 _ (mem_rowOf.2 h)
          · right; have := hbs3; omega
        have HN3 := Lib.hid hne3
        clear hown3 hgr3 hat3 hrow hrow2 hne3
        go_wp2
        go_roundw
        case rel => exact ⟨j + 1, by omega, by go_num, (by rw [HRR.out, HF2.out]; exact HO3.out), hB3, KT3, KC3, HN3⟩
        case measure => (simp [intOf] <;> omega)
      | false =>
        have HF2 := Lib.hid ((argsTo_succ (resIdx xs[d].ctors[k] i) xs[d].ctors[k].args j hjl).trans (by rw [argTy_no q3]))
        have hB1 := hBx
        have HO1 := HOx
        have KT1 : Hid (Blk (wr.alloc (.cells #[.int .i64 xs[d].ctors[k].args[j].d, .int .i64 xs[d].ctors[k].args[j].i] 33)) w.heap.size 33 #[.int .i64 (d : Int), .int .i64 i]) := KTx
        have KC1 : Hid (Blk (wr.alloc (.cells #[.int .i64 xs[d].ctors[k].args[j].d, .int .i64 xs[d].ctors[k].args[j].i] 33)) (w.heap.size + 2) 60 #[.string xs[d].ctors[k].name, .slice (some ⟨b3, off3, none⟩) xs[d].ctors[k].args.length cap3, .int .i64 xs[d].ctors[k].idx]) := KCx
        have hbs : w.heap.size + 1 ≤ (wr.alloc (.cells #[.int .i64 xs[d].ctors[k].args[j].d, .int .i64 xs[d].ctors[k].args[j].i] 33)).heap.size := Nat.le_of_lt (Nat.lt_of_le_of_lt (Nat.le_add_right _ 1) KC1.out.lt)
        have hbs3 : w.heap.size + 3 ≤ (wr.alloc (.cells #[.int .i64 xs[d].ctors[k].args[j].d, .int .i64 xs[d].ctors[k].args[j].i] 33)).heap.size := KC1.out.lt
        have hrow2 := HN.out
        clear hBx HOx KTx KCx
        go_wp2_with (at_builtin; refine Halt.mk ?_)
        refine Halt.of (wpList_push1 (P := Tryz.prog) rfl _ _ 58 rfl i0 _ 16 Tryz.underlying58 HI.out HZ0.out HZ1.out HZ2.out rfl (by decide) TyR_len' TyR_mono' (by rfl) HO1.out ⟨xs[d].ctors[k].args[j].d, xs[d].ctors[k].args[j].i⟩ 33 [.int .i64 (xs[d].ctors[k].args[j].d), .int .i64 (xs[d].ctors[k].args[j].i)] [] _ (by rfl) (by simp) (by simp [Value.oneCell']) ⟨rfl, rfl⟩ (Under.nil _) (fun _ _ h => by cases h) (by have := argsTo_len (resIdx xs[d].ctors[k] i) xs[d].ctors[k].args j; unfold maxLen; omega) (by have := argsTo_len (resIdx xs[d].ctors[k] i) xs[d].ctors[k].args j; omega) hbs ?_)
        intro g cp w3 hown3 hgr3 hat3
        have hrow := HO1.out.row
        have hB3 : Below w.heap.size w w3 := (hB1.alloc hB1.size _).grown hgr3 (by have := hB1.size; simp; omega) (fun g hg => by have := hrow g (mem_rowOf.2 hg); omega)
        have HO3 := Lib.hid hown3
        have KT3 : Hid (Blk w3 w.heap.size 33 #[.int .i64 (d : Int), .int .i64 i]) := (KT1.out.same (Below.heap_alloc _ _ _ KT1.out.lt)).same (hgr3.block _ (by have := KT1.out.lt; simp; omega) (fun e => by have := hrow _ (mem_rowOf.2 e.symm); omega))
        have KC3 : Hid (Blk w3 (w.heap.size + 2) 60 #[.string xs[d].ctors[k].name, .slice (some ⟨b3, off3, none⟩) xs[d].ctors[k].args.length cap3, .int .i64 xs[d].ctors[k].idx]) := (KC1.out.same (Below.heap_alloc _ _ _ KC1.out.lt)).same (hgr3.block _ (by have := KC1.out.lt; simp; omega) (fun e => by have := hrow2 _ (mem_rowOf.2 e.symm); omega))
        have hne3 : ∀ g' ∈ rowOf (.slice (some ⟨g, 0, none⟩) ((argsTo (resIdx xs[d].ctors[k] i) xs[d].ctors[k].args j).length + 1) cp), g' = w.heap.size + 1 ∨ w.heap.size + 3 ≤ g' := fun g' hg' => by
          rw [rowOf_some, List.mem_singleton] at hg'
          subst hg'
          rcases hat3 with h | h
          · exact hrow2 _ (mem_rowOf.2 h)
          · right; have := hbs3; omega
        have HN3 := Lib.hid hne3
        clear hown3 hgr3 hat3 hrow hrow2 hne3
        go_wp2
        go_roundw
        case rel => exact ⟨j + 1, by omega, by go_num, (by rw [HF2.out]; exact HO3.out), hB3, KT3, KC3, HN3⟩
        case measure => (simp [intOf] <;> omega)
    · have hfin : GivesTys w (argsL xs[d].ctors[k] i) (.returned u7) wr := by
        unfold argsL
        have h := HO.out
        rw [argsTo_all _ _ (by omega)] at h
        exact h.tys hB (by omega)
      have HFin := Lib.hid hfin
      clear hfin
      go_wp2
      go_ret
      exact HFin.out
end Go.Proofs.YtilndhmegaccmaaGreatDoor

namespace Go.Proofs.YtilndhmegaccmaaGreatDoor
open Go.RowKit

theorem info_int : (Tryz.prog.info? 3).map (fun i => (i.zero, i.size, i.bytes)) = some (some (.int .i64 0), 1, 8) := by kernel_rfl

/-- a constructor can make values with an index -/
def fitsB (c : Kt) (i : Int) : Bool := c.idx == 0 || (i == 0 || c.idx == i)
def fitAt (cs : List Kt) (i : Int) (k : Nat) : Bool := match cs[k]? with | some c => fitsB c i | none => false
/-- the constructors that can make values with an index, among the first n -/
def fitTo (cs : List Kt) (i : Int) (n : Nat) : List Int := ((List.range n).filter (fitAt cs i)).map Int.ofNat
def ctorsAt (xs : List Dt) (d : Int) : List Kt := match xs[d.toNat]? with | some x => x.ctors | none => []
def ctorsL (xs : List Dt) (t : Ty) : List Int := if t.d = -1 then [] else fitTo (ctorsAt xs t.d) t.i (ctorsAt xs t.d).length
theorem fitTo_zero (cs : List Kt) (i : Int) : fitTo cs i 0 = [] := rfl
theorem fitTo_succ (cs : List Kt) (i : Int) (n : Nat) (h : n < cs.length) : fitTo cs i (n + 1) = if fitsB cs[n] i then fitTo cs i n ++ [(n : Int)] else fitTo cs i n := by
  unfold fitTo
  rw [List.range_succ, List.filter_append]
  have hf : fitAt cs i n = fitsB cs[n] i := by unfold fitAt; rw [List.getElem?_eq_getElem h]
  cases hb : fitsB cs[n] i <;> simp [hf, hb]
theorem fitTo_yes {cs : List Kt} {i : Int} {n : Nat} (h : n < cs.length) (e : fitsB cs[n] i = true) : fitTo cs i (n + 1) = fitTo cs i n ++ [(n : Int)] := by rw [fitTo_succ cs i n h, if_pos e]
theorem fitTo_no {cs : List Kt} {i : Int} {n : Nat} (h : n < cs.length) (e : fitsB cs[n] i = false) : fitTo cs i (n + 1) = fitTo cs i n := by rw [fitTo_succ cs i n h, if_neg (by simp [e])]
theorem fitTo_len (cs : List Kt) (i : Int) (n : Nat) : (fitTo cs i n).length ≤ n := by
  unfold fitTo
  rw [List.length_map]
  exact Nat.le_trans (List.length_filter_le _ _) (by simp)
theorem ctorsL_int {xs : List Dt} {t : Ty} (h : t.d = -1) : ctorsL xs t = [] := if_pos h
theorem ctorsAt_get {xs : List Dt} {d : Nat} (h : d < xs.length) : ctorsAt xs (d : Int) = xs[d].ctors := by unfold ctorsAt; rw [Int.toNat_natCast, List.getElem?_eq_getElem h]
theorem ctorsL_data {xs : List Dt} {d : Nat} {i : Int} (h : d < xs.length) : ctorsL xs ⟨(d : Int), i⟩ = fitTo xs[d].ctors i xs[d].ctors.length := by
  unfold ctorsL
  rw [if_neg (by show ¬ ((d : Int) = -1); omega)]
  show fitTo (ctorsAt xs (d : Int)) i (ctorsAt xs (d : Int)).length = _
  rw [ctorsAt_get h]
def MadeNats (w : World) (xs : List Int) (e : Ending) (w' : World) : Prop := MadeArr NatR w xs e w'
theorem MadeNats.nil (w : World) : MadeNats w [] (.returned (.slice none 0 0)) w := ⟨_, [], rfl, Below.refl _ _, Arr.nil, Free.nil _, Fresh.nil _ _⟩
theorem Own.nats {w0 w : World} {B : Nat} {E : TypeId} {xs : List Int} {v : Value} (h : Own w B E 1 NatR xs v []) (hb : Below w0.heap.size w0 w) (hB : w0.heap.size ≤ B) : MadeNats w0 xs (.returned v) w :=
  h.gives hb hB (fun b hb => by cases hb) (Free.nil _)
theorem NatR_mono' {w w' : World} (x : Int) (cs : List Value) (F : List Nat) (hk : Kept F w w') (h : NatR w x cs F) : NatR w' x cs F := h
set_option maxRecDepth 100000 in
set_option maxHeartbeats 1600000 in
theorem impl_ctorsOf (xs : List Dt) (t : Ty) (w : World) (v : Value) (F : List Nat) (hx : Arr w (DtR w) xs v F) (hf : Under w.heap.size F) (hw : WorldOK xs) (ht : InWorld xs.length t) :
    Calls Tryz.prog 69 #[v, .agg #[.int .i64 t.d, .int .i64 t.i]] w (MadeNats w (ctorsL xs t)) := by
  obtain ⟨A, cap, rfl, hc1, hc2⟩ := hx.form
  have HX := Lib.hid hx
  have HF := Lib.hid hf
  clear hx hf
  rcases ht with hd | ⟨d, hd, hdl⟩
  · have hf := Lib.hid (ctorsL_int (xs := xs) hd)
    have t0 : (t.d != -1) = false := by simp [hd]
    clear hd
    go_enter Tryz.func69, Tryz.ntmps69
    go_wp2
    go_ret
    rw [hf.out]
    exact ⟨_, [], rfl, (Below.refl _ _).alloc (Nat.le_refl _) _, Arr.nil, Free.nil _, Fresh.nil _ _⟩
  · obtain ⟨t1, t2⟩ := t
    simp only at hd
    subst hd
    have hf := Lib.hid (ctorsL_data (i := t2) hdl)
    have t0 : ((d : Int) != -1) = true := by rw [bne_iff_ne]; omega
    obtain ⟨i0, hi, hz0, hz1, hz2⟩ := info_parts info_int
    have HI := Lib.hid hi
    have HZ0 := Lib.hid hz0
    have HZ1 := Lib.hid hz1
    have HZ2 := Lib.hid hz2
    clear hi hz0 hz1 hz2
    obtain ⟨b, off, rfl⟩ := HX.out.ptr (by omega)
    have hB0 : Below w.heap.size w (w.alloc (.cells #[.int .i64 (d : Int), .int .i64 t2] 33)) := (Below.refl _ _).alloc (Nat.le_refl _) _
    obtain ⟨A1, cap1, G1, hb, c0, c1, HK, HG, hs, hn1, hn2⟩ := ArrDt.at HX.out HF.out hB0 d hdl
    have g1 : (0 : Int) ≤ (d : Int) := by omega
    have g2 : (d : Int) < (xs.length : Int) := by omega
    have HL := Lib.hid (hw.at hdl).hi
    clear c0 hs
    go_enter Tryz.func69, Tryz.ntmps69
    go_wp2
    clear c1 hb
    go_loopw [5, 18] (fun ov iv wr => ∃ k : Nat, k ≤ xs[d].ctors.length ∧ iv = .int .i64 k ∧ Hid (Own wr (w.heap.size + 1) 3 1 NatR (fitTo xs[d].ctors t2 k) ov []) ∧ Below w.heap.size w wr ∧ Hid (Blk wr w.heap.size 33 #[.int .i64 (d : Int), .int .i64 t2])) (fun _ iv _ => xs[d].ctors.length - (intOf iv).toNat)
    case atStart => exact ⟨0, Nat.zero_le _, rfl, (show Own _ _ _ _ _ [] _ _ from Own.nil _ _ _ _ _), hB0, Blk.new _ _ _⟩
    case round =>
      clear hB0
      obtain ⟨k, hk, rfl, HO, hB, KT⟩ := hrel
      by_cases hkl : k < xs[d].ctors.length
      · obtain ⟨b2, off2, rfl⟩ := HK.out.ptr (by omega)
        obtain ⟨A3, cap3, G3, hb3, k0, k1, k2, HC, HG3, -, -, -⟩ := ArrKt.rep HK.out HG.out hB k hkl
        have g3 : (0 : Int) ≤ (k : Int) := by omega
        have g4 : (k : Int) < (xs[d].ctors.length : Int) := by omega
        have y1 : wr.cell? ⟨w.heap.size, 1, none⟩ = some (.int .i64 t2) := (KT.out.cell 1).trans (by simp)
        have hy1 := KT.out.lt
        have hb1 : Below wr.heap.size wr (wr.alloc (.cells #[.string xs[d].ctors[k].name, .slice A3 xs[d].ctors[k].args.length cap3, .int .i64 xs[d].ctors[k].idx] 60)) := (Below.refl _ _).alloc (Nat.le_refl _) _
        have hB1 := hB.trans (hb1.mono hB.size)
        have HO1 := Lib.hid (HO.out.below (fun x cs G hk h => NatR_mono _ _ x cs G hk h) hb1)
        have KT1 : Hid (Blk (wr.alloc (.cells #[.string xs[d].ctors[k].name, .slice A3 xs[d].ctors[k].args.length cap3, .int .i64 xs[d].ctors[k].idx] 60)) w.heap.size 33 #[.int .i64 (d : Int), .int .i64 t2]) := KT.out.same (hb1.block _ KT.out.lt)
        have hsz1 : wr.heap.size ≤ (wr.alloc (.cells #[.string xs[d].ctors[k].name, .slice A3 xs[d].ctors[k].args.length cap3, .int .i64 xs[d].ctors[k].idx] 60)).heap.size := hb1.size
        have hz1' : w.heap.size + 1 ≤ wr.heap.size := KT.out.lt
        cases q0 : (t2 == 0) with
        | true =>
          have e1 : fitsB xs[d].ctors[k] t2 = true := by unfold fitsB; rw [q0, Bool.true_or, Bool.or_true]
          have HF2 := Lib.hid (fitTo_yes hkl e1)
          clear e1
          have hlen := fitTo_len xs[d].ctors t2 k
          go_wp2_with (at_builtin; refine Halt.mk ?_)
          refine Halt.of (wpList_push1 (P := Tryz.prog) rfl _ _ 104 rfl i0 _ 8 Tryz.underlying104 HI.out HZ0.out HZ1.out HZ2.out rfl Nat.zero_lt_one NatR_len NatR_mono (by rfl) HO1.out (k : Int) 3 [.int .i64 (k : Int)] [] _ (by rfl) (by simp) (by simp [Value.oneCell']) ⟨rfl, rfl⟩ (Under.nil _) (fun _ _ h => by cases h) (by have := HL.out; unfold maxLen; omega) (by have := HL.out; omega) (Nat.le_trans hz1' hsz1) ?_)
          intro g cp w3 hown3 hgr3 hat3
          have hrow := HO1.out.row
          have hB3 : Below w.heap.size w w3 := (hB1.alloc hB1.size _).grown hgr3 (by have := hB1.size; simp; omega) (fun g hg => by have := hrow g (mem_rowOf.2 hg); omega)
          have HO3 := Lib.hid hown3
          have KT3 : Hid (Blk w3 w.heap.size 33 #[.int .i64 (d : Int), .int .i64 t2]) := (KT1.out.same (Below.heap_alloc _ _ _ KT1.out.lt)).same (hgr3.block _ (by have := KT1.out.lt; simp; omega) (fun e => by have := hrow _ (mem_rowOf.2 e.symm); omega))
          have hsz3 := hgr3.size
          clear hown3 hgr3 hat3 hrow hlen
          go_wp2
          go_roundw
          case rel => exact ⟨k + 1, by omega, by go_num, (by rw [HF2.out]; exact HO3.out), hB3, KT3⟩
          case measure => (simp [intOf] <;> omega)
        | false =>
          cases q1 : (xs[d].ctors[k].idx == 0) with
          | true =>
            have e1 : fitsB xs[d].ctors[k] t2 = true := by unfold fitsB; rw [q1, Bool.true_or]
            have HF2 := Lib.hid (fitTo_yes hkl e1)
            clear e1
            have hlen := fitTo_len xs[d].ctors t2 k
            go_wp2_with (at_builtin; refine Halt.mk ?_)
            refine Halt.of (wpList_push1 (P := Tryz.prog) rfl _ _ 104 rfl i0 _ 8 Tryz.underlying104 HI.out HZ0.out HZ1.out HZ2.out rfl Nat.zero_lt_one NatR_len NatR_mono (by rfl) HO1.out (k : Int) 3 [.int .i64 (k : Int)] [] _ (by rfl) (by simp) (by simp [Value.oneCell']) ⟨rfl, rfl⟩ (Under.nil _) (fun _ _ h => by cases h) (by have := HL.out; unfold maxLen; omega) (by have := HL.out; omega) (Nat.le_trans hz1' hsz1) ?_)
            intro g cp w3 hown3 hgr3 hat3
            have hrow := HO1.out.row
            have hB3 : Below w.heap.size w w3 := (hB1.alloc hB1.size _).grown hgr3 (by have := hB1.size; simp; omega) (fun g hg => by have := hrow g (mem_rowOf.2 hg); omega)
            have HO3 := Lib.hid hown3
            have KT3 : Hid (Blk w3 w.heap.size 33 #[.int .i64 (d : Int), .int .i64 t2]) := (KT1.out.same (Below.heap_alloc _ _ _ KT1.out.lt)).same (hgr3.block _ (by have := KT1.out.lt; simp; omega) (fun e => by have := hrow _ (mem_rowOf.2 e.symm); omega))
            have hsz3 := hgr3.size
            clear hown3 hgr3 hat3 hrow hlen
            go_wp2
            go_roundw
            case rel => exact ⟨k + 1, by omega, by go_num, (by rw [HF2.out]; exact HO3.out), hB3, KT3⟩
            case measure => (simp [intOf] <;> omega)
          | false =>
            cases q2 : (xs[d].ctors[k].idx == t2) with
            | true =>
              have e1 : fitsB xs[d].ctors[k] t2 = true := by unfold fitsB; rw [q0, q1, q2]; rfl
              have HF2 := Lib.hid (fitTo_yes hkl e1)
              clear e1
              have hlen := fitTo_len xs[d].ctors t2 k
              go_wp2_with (at_builtin; refine Halt.mk ?_)
              refine Halt.of (wpList_push1 (P := Tryz.prog) rfl _ _ 104 rfl i0 _ 8 Tryz.underlying104 HI.out HZ0.out HZ1.out HZ2.out rfl Nat.zero_lt_one NatR_len NatR_mono (by rfl) HO1.out (k : Int) 3 [.int .i64 (k : Int)] [] _ (by rfl) (by simp) (by simp [Value.oneCell']) ⟨rfl, rfl⟩ (Under.nil _) (fun _ _ h => by cases h) (by have := HL.out; unfold maxLen; omega) (by have := HL.out; omega) (Nat.le_trans hz1' hsz1) ?_)
              intro g cp w3 hown3 hgr3 hat3
              have hrow := HO1.out.row
              have hB3 : Below w.heap.size w w3 := (hB1.alloc hB1.size _).grown hgr3 (by have := hB1.size; simp; omega) (fun g hg => by have := hrow g (mem_rowOf.2 hg); omega)
              have HO3 := Lib.hid hown3
              have KT3 : Hid (Blk w3 w.heap.size 33 #[.int .i64 (d : Int), .int .i64 t2]) := (KT1.out.same (Below.heap_alloc _ _ _ KT1.out.lt)).same (hgr3.block _ (by have := KT1.out.lt; simp; omega) (fun e => by have := hrow _ (mem_rowOf.2 e.symm); omega))
              have hsz3 := hgr3.size
              clear hown3 hgr3 hat3 hrow hlen
              go_wp2
              go_roundw
              case rel => exact ⟨k + 1, by omega, by go_num, (by rw [HF2.out]; exact HO3.out), hB3, KT3⟩
              case measure => (simp [intOf] <;> omega)
            | false =>
              have e1 : fitsB xs[d].ctors[k] t2 = false := by unfold fitsB; rw [q0, q1, q2]; rfl
              have HF2 := Lib.hid (fitTo_no hkl e1)
              clear e1
              go_wp2
              go_roundw
              case rel => exact ⟨k + 1, by omega, by go_num, (by rw [HF2.out]; exact HO1.out), hB1, KT1⟩
              case measure => (simp [intOf] <;> omega)
      · have hfin : MadeNats w (ctorsL xs ⟨(d : Int), t2⟩) (.returned u5) wr := by
          rw [hf.out]
          have h := HO.out
          rw [show k = xs[d].ctors.length by omega] at h
          exact h.nats hB (by omega)
        have HFin := Lib.hid hfin
        clear hfin
        go_wp2
        go_ret
        exact HFin.out
end Go.Proofs.YtilndhmegaccmaaGreatDoor

namespace Go.Proofs.YtilndhmegaccmaaGreatDoor
open Go.RowKit

/-- a name stands before: s (of a data type) among those of pre, or c (of a constructor) among those of pre's and cs' constructors -/
def ctorNames (pre : List Dt) : List ByteArray := pre.flatMap fun x => x.ctors.map Kt.name
def twiceB (pre : List Dt) (cs : List Kt) (s c : ByteArray) : Bool := nameIn (pre.map Dt.name) s || nameIn (ctorNames pre ++ cs.map Kt.name) c
theorem nameIn_snoc (l : List ByteArray) (x s : ByteArray) : nameIn (l ++ [x]) s = (nameIn l s || (x.toList == s.toList)) := by simp [nameIn]
theorem nameIn_append (l m : List ByteArray) (s : ByteArray) : nameIn (l ++ m) s = (nameIn l s || nameIn m s) := by simp [nameIn]
theorem nameIn_mem {l : List ByteArray} {x s : ByteArray} (h : x ∈ l) (e : (x.toList == s.toList) = true) : nameIn l s = true := by
  unfold nameIn; rw [List.any_eq_true]; exact ⟨x, h, e⟩
theorem ctorNames_snoc (l : List Dt) (x : Dt) : ctorNames (l ++ [x]) = ctorNames l ++ x.ctors.map Kt.name := by simp [ctorNames]
def MissD (xs : List Dt) (s c : ByteArray) (i : Nat) : Prop := nameIn ((xs.take i).map Dt.name) s = false ∧ nameIn (ctorNames (xs.take i)) c = false
theorem MissD.snoc {xs : List Dt} {s c : ByteArray} {i : Nat} (h : MissD xs s c i) (hi : i < xs.length) (h1 : (xs[i].name.toList == s.toList) = false) (h2 : nameIn (xs[i].ctors.map Kt.name) c = false) : MissD xs s c (i + 1) := by
  unfold MissD
  rw [take_snoc' xs i hi, List.map_append, List.map_cons, List.map_nil, nameIn_snoc, ctorNames_snoc, nameIn_append, h.1, h.2, h1, h2]
  exact ⟨rfl, rfl⟩
theorem twice_hitD {xs : List Dt} {cs : List Kt} {s c : ByteArray} {i d : Nat} (hi : i < xs.length) (hd : i < d) (h1 : (xs[i].name.toList == s.toList) = true) : twiceB (xs.take d) cs s c = true := by
  unfold twiceB
  rw [nameIn_mem (List.mem_map_of_mem (List.mem_take_iff_getElem.2 ⟨i, by omega, rfl⟩)) h1]; rfl
theorem twice_hitC {xs : List Dt} {cs : List Kt} {s c : ByteArray} {i j d : Nat} (hi : i < xs.length) (hd : i < d) (hj : j < xs[i].ctors.length) (h1 : (xs[i].ctors[j].name.toList == c.toList) = true) : twiceB (xs.take d) cs s c = true := by
  unfold twiceB
  rw [nameIn_append, nameIn_mem (l := ctorNames (xs.take d)) (x := xs[i].ctors[j].name) (List.mem_flatMap.2 ⟨xs[i], List.mem_take_iff_getElem.2 ⟨i, by omega, rfl⟩, List.mem_map_of_mem (List.getElem_mem hj)⟩) h1, Bool.true_or, Bool.or_true]
theorem twice_hitK {pre : List Dt} {ks : List Kt} {s c : ByteArray} {j k : Nat} (hj : j < ks.length) (hk : j < k) (h1 : (ks[j].name.toList == c.toList) = true) : twiceB pre (ks.take k) s c = true := by
  unfold twiceB
  rw [nameIn_append, nameIn_mem (l := (ks.take k).map Kt.name) (List.mem_map_of_mem (List.mem_take_iff_getElem.2 ⟨j, by omega, rfl⟩)) h1, Bool.or_true, Bool.or_true]
theorem twice_miss {xs : List Dt} {cs : List Kt} {s c : ByteArray} {d : Nat} (h : MissD xs s c d) (h1 : nameIn (cs.map Kt.name) c = false) : twiceB (xs.take d) cs s c = false := by
  unfold twiceB
  rw [nameIn_append, h.1, h.2, h1]; rfl
def MissK (ks : List Kt) (c : ByteArray) (j : Nat) : Prop := nameIn ((ks.take j).map Kt.name) c = false
theorem MissK.snoc {ks : List Kt} {c : ByteArray} {j : Nat} (h : MissK ks c j) (hj : j < ks.length) (h1 : (ks[j].name.toList == c.toList) = false) : MissK ks c (j + 1) := by
  unfold MissK
  rw [take_snoc' ks j hj, List.map_append, List.map_cons, List.map_nil, nameIn_snoc, h1, Bool.or_false]
  exact h
theorem MissK.all {ks : List Kt} {c : ByteArray} {j : Nat} (h : MissK ks c j) (hj : ks.length ≤ j) : nameIn (ks.map Kt.name) c = false := by
  unfold MissK at h
  rwa [List.take_of_length_le hj] at h
set_option maxRecDepth 100000 in
set_option maxHeartbeats 1600000 in
theorem spec_l1Twice (xs : List Dt) (d k : Nat) (hd : d < xs.length) (hk : k < xs[d].ctors.length) (w : World) (v : Value) (F : List Nat) (hx : Arr w (DtR w) xs v F) (hf : Under w.heap.size F) :
    Calls Tryz.prog 55 #[v, .int .i64 d, .int .i64 k] w fun e w' => e = .returned (.bool (twiceB (xs.take d) (xs[d].ctors.take k) xs[d].name xs[d].ctors[k].name)) ∧ Below w.heap.size w w' := by
  obtain ⟨A, cap, rfl, hc1, hc2⟩ := hx.form
  obtain ⟨b, off, rfl⟩ := hx.ptr (by omega)
  have HX := Lib.hid hx
  have HF := Lib.hid hf
  clear hx hf
  go_enter Tryz.func55, Tryz.ntmps55
  go_wp2
  go_loopw [7] (fun iv wr => ∃ i : Nat, i ≤ d + 1 ∧ iv = .int .i64 i ∧ Hid ((i ≤ d → MissD xs xs[d].name xs[d].ctors[k].name i) ∧ (i = d + 1 → twiceB (xs.take d) (xs[d].ctors.take k) xs[d].name xs[d].ctors[k].name = false)) ∧ Below w.heap.size w wr) (fun iv _ => d + 1 - (intOf iv).toNat)
  case atStart => exact ⟨0, Nat.zero_le _, rfl, ⟨fun _ => ⟨rfl, rfl⟩, fun h => by omega⟩, Below.refl _ _⟩
  case round =>
    obtain ⟨i, hi, rfl, HR, hB⟩ := hrel
    have HBQ := Lib.hid (fun n => below_drewN hB n)
    by_cases hid : i < d
    · have hil : i < xs.length := by omega
      have HM := Lib.hid (HR.out.1 (by omega))
      obtain ⟨Ai, capi, Gi, hbi, i0, i1, HI, HGi, -, -, -⟩ := ArrDt.at HX.out HF.out hB i hil
      obtain ⟨Ad, capd, Gd, hbd, d0, d1, HD, HGd, -, -, -⟩ := ArrDt.at HX.out HF.out hB d hd
      have g5 : (0 : Int) ≤ (i : Int) := by omega
      have g6 : (i : Int) < (xs.length : Int) := by omega
      have g7 : (0 : Int) ≤ (d : Int) := by omega
      have g8 : (d : Int) < (xs.length : Int) := by omega
      have hdec : decide (i < d) = true := by simpa using hid
      cases e0 : (xs[i].name.toList == xs[d].name.toList) with
      | true =>
        have hf := Lib.hid (twice_hitD (cs := xs[d].ctors.take k) (c := xs[d].ctors[k].name) hil hid e0)
        go_wp2_with fail
        go_quiet (fail)
        go_wp2
        go_ret
        exact ⟨ret_bool hf.out.symm, HBQ.out _⟩
      | false =>
        go_wp2_with fail
        go_quiet (fail)
        have HE0 := Lib.hid e0
        clear e0 i0 i1 d0 d1 HI HGi HD HGd hbi hbd hB
        go_wp2
        obtain ⟨wo, hwo⟩ : ∃ wo : World, wo = wr := ⟨_, rfl⟩
        go_loopw [8] (fun jv ws => ∃ j : Nat, j ≤ xs[i].ctors.length ∧ jv = .int .i64 j ∧ Hid (MissK xs[i].ctors xs[d].ctors[k].name j) ∧ Below w.heap.size w ws) (fun jv _ => xs[i].ctors.length - (intOf jv).toNat)
        case atStart => exact ⟨0, Nat.zero_le _, rfl, (show MissK xs[i].ctors xs[d].ctors[k].name 0 from rfl), HBQ.out _⟩
        case round =>
          clear hwo
          obtain ⟨j, hj, rfl, HK, hB2⟩ := hrel
          have HBq2 := Lib.hid (fun n => below_drewN hB2 n)
          obtain ⟨Ai, capi, Gi, hbi, i0, i1, HI, HGi, -, hci1, hci2⟩ := ArrDt.at HX.out HF.out hB2 i hil
          clear i0
          by_cases hlt : j < xs[i].ctors.length
          · have hjl : j < xs[i].ctors.length := by omega
            obtain ⟨bi, offi, rfl⟩ := HI.out.ptr (by omega)
            obtain ⟨-, -, -, hbj, j0, -, -, -, -, -, -, -⟩ := ArrKt.at HI.out HGi.out hB2 j hjl
            obtain ⟨Ad, capd, Gd, hbd, d0, d1, HD, HGd, -, hcd1, hcd2⟩ := ArrDt.at HX.out HF.out hB2 d hd
            clear d0
            obtain ⟨bd, offd, rfl⟩ := HD.out.ptr (by omega)
            obtain ⟨-, -, -, hbk, k0, -, -, -, -, -, -, -⟩ := ArrKt.at HD.out HGd.out hB2 k hk
            have g1 : (0 : Int) ≤ (j : Int) := by omega
            have g2 : (j : Int) < (xs[i].ctors.length : Int) := by omega
            have g3 : (0 : Int) ≤ (k : Int) := by omega
            have g4 : (k : Int) < (xs[d].ctors.length : Int) := by omega
            have g5 : (0 : Int) ≤ (i : Int) := by omega
            have g6 : (i : Int) < (xs.length : Int) := by omega
            have g7 : (0 : Int) ≤ (d : Int) := by omega
            have g8 : (d : Int) < (xs.length : Int) := by omega
            have g9 : decide (k < xs[d].ctors.length) = true := by simpa using hk
            cases e1 : (xs[i].ctors[j].name.toList == xs[d].ctors[k].name.toList) with
            | true =>
              have hf := Lib.hid (twice_hitC hil hid hjl e1 : twiceB (xs.take d) (xs[d].ctors.take k) xs[d].name xs[d].ctors[k].name = true)
              go_wp2_with fail
              go_quiet (fail)
              go_wp2
              go_ret
              exact ⟨ret_bool hf.out.symm, HBq2.out _⟩
            | false =>
              have HK2 := Lib.hid (HK.out.snoc hjl e1)
              go_wp2_with fail
              go_quiet (fail)
              go_wp2
              go_roundw
              case rel => exact ⟨j + 1, by omega, by go_num, HK2, HBq2.out _⟩
              case measure => (simp [intOf] <;> omega)
          · go_wp2_with fail
            have hm2 : MissD xs xs[d].name xs[d].ctors[k].name (i + 1) := HM.out.snoc hil HE0.out (HK.out.all (by omega))
            go_roundw
            case rel => exact ⟨i + 1, by omega, by go_num, ⟨fun _ => hm2, fun h => by omega⟩, hB2⟩
            case measure => (simp [intOf] <;> omega)

    · by_cases he : i = d
      · subst he
        have hil : i < xs.length := by omega
        have HM := Lib.hid (HR.out.1 (by omega))
        have hdec : decide (i < i) = false := by simp
        go_wp2_with fail
        go_quiet (fail)
        clear hB
        go_wp2
        obtain ⟨wo, hwo⟩ : ∃ wo : World, wo = wr := ⟨_, rfl⟩
        go_loopw [8] (fun jv ws => ∃ j : Nat, j ≤ k ∧ jv = .int .i64 j ∧ Hid (MissK xs[i].ctors xs[i].ctors[k].name j) ∧ Below w.heap.size w ws) (fun jv _ => k - (intOf jv).toNat)
        case atStart => exact ⟨0, Nat.zero_le _, rfl, (show MissK xs[i].ctors xs[i].ctors[k].name 0 from rfl), HBQ.out _⟩
        case round =>
          clear hwo
          obtain ⟨j, hj, rfl, HK, hB2⟩ := hrel
          have HBq2 := Lib.hid (fun n => below_drewN hB2 n)
          obtain ⟨Ai, capi, Gi, hbi, i0, i1, HI, HGi, -, hci1, hci2⟩ := ArrDt.at HX.out HF.out hB2 i hil
          clear i0
          by_cases hlt : j < k
          · have hjl : j < xs[i].ctors.length := by omega
            obtain ⟨bi, offi, rfl⟩ := HI.out.ptr (by omega)
            obtain ⟨-, -, -, hbj, j0, -, -, -, -, -, -, -⟩ := ArrKt.at HI.out HGi.out hB2 j hjl
            obtain ⟨-, -, -, hbk, k0, -, -, -, -, -, -, -⟩ := ArrKt.at HI.out HGi.out hB2 k hk
            have g1 : (0 : Int) ≤ (j : Int) := by omega
            have g2 : (j : Int) < (xs[i].ctors.length : Int) := by omega
            have g3 : (0 : Int) ≤ (k : Int) := by omega
            have g4 : (k : Int) < (xs[i].ctors.length : Int) := by omega
            have g5 : (0 : Int) ≤ (i : Int) := by omega
            have g6 : (i : Int) < (xs.length : Int) := by omega
            have g7 : (0 : Int) ≤ (i : Int) := by omega
            have g8 : (i : Int) < (xs.length : Int) := by omega
            have g9 : decide (k < xs[i].ctors.length) = true := by simpa using hk
            cases e1 : (xs[i].ctors[j].name.toList == xs[i].ctors[k].name.toList) with
            | true =>
              have hf := Lib.hid (twice_hitK hjl hlt e1 : twiceB (xs.take i) (xs[i].ctors.take k) xs[i].name xs[i].ctors[k].name = true)
              go_wp2_with fail
              go_quiet (fail)
              go_wp2
              go_ret
              exact ⟨ret_bool hf.out.symm, HBq2.out _⟩
            | false =>
              have HK2 := Lib.hid (HK.out.snoc hjl e1)
              go_wp2_with fail
              go_quiet (fail)
              go_wp2
              go_roundw
              case rel => exact ⟨j + 1, by omega, by go_num, HK2, HBq2.out _⟩
              case measure => (simp [intOf] <;> omega)
          · go_wp2_with fail
            have hm2 : twiceB (xs.take i) (xs[i].ctors.take k) xs[i].name xs[i].ctors[k].name = false := twice_miss HM.out (by have h := HK.out; have e : j = k := (by omega); unfold MissK at h; rw [e] at h; exact h)
            go_roundw
            case rel => exact ⟨i + 1, by omega, by go_num, ⟨fun h => by omega, fun _ => hm2⟩, hB2⟩
            case measure => (simp [intOf] <;> omega)

      · have hf := Lib.hid (HR.out.2 (by omega))
        go_wp2
        go_ret
        exact ⟨ret_bool hf.out.symm, hB⟩
end Go.Proofs.YtilndhmegaccmaaGreatDoor

namespace Go.Proofs.YtilndhmegaccmaaGreatDoor
open Go.RowKit

def WInv (xs : List Dt) (d : Nat) : Prop := worldOk xs = worldGo xs.length ((xs.take d).map Dt.name) (ctorNames (xs.take d)) (xs.drop d)
def KInv (xs : List Dt) (d : Nat) (hd : d < xs.length) (k : Nat) : Prop :=
  worldOk xs = (ctorsSpec xs.length (nameIn ((xs.take d).map Dt.name) xs[d].name) (ctorNames (xs.take d) ++ (xs[d].ctors.take k).map Kt.name) (xs[d].ctors.drop k) && worldGo xs.length ((xs.take (d + 1)).map Dt.name) (ctorNames (xs.take (d + 1))) (xs.drop (d + 1)))
def KInvI (xs : List Dt) (d : Nat) (hd : d < xs.length) (k : Nat) : Prop :=
  worldOk xs = (ctorsGo xs.length (ctorNames (xs.take d) ++ (xs[d].ctors.take k).map Kt.name) (xs[d].ctors.drop k) && worldGo xs.length ((xs.take (d + 1)).map Dt.name) (ctorNames (xs.take (d + 1))) (xs.drop (d + 1)))
theorem WInv.zero {xs : List Dt} (h : xs.length ≤ 4) : WInv xs 0 := by
  unfold WInv worldOk
  rw [decide_eq_true (by omega), Bool.true_and]; rfl
theorem worldOk_long {xs : List Dt} (h : ¬ xs.length ≤ 4) : worldOk xs = false := by
  unfold worldOk
  rw [decide_eq_false (by omega), Bool.false_and]
theorem WInv.done {xs : List Dt} {d : Nat} (h : WInv xs d) (hd : xs.length ≤ d) : worldOk xs = true := by
  unfold WInv at h
  rw [h, List.drop_of_length_le hd]; rfl
theorem WInv.step {xs : List Dt} {d : Nat} (h : WInv xs d) (hd : d < xs.length) : worldOk xs = (dnameOk xs[d].name.data.toList && (!nameIn ((xs.take d).map Dt.name) xs[d].name && (withinB (xs[d].ctors.length : Int) 1 4 && (ctorsGo xs.length (ctorNames (xs.take d)) xs[d].ctors && worldGo xs.length ((xs.take (d + 1)).map Dt.name) (ctorNames (xs.take (d + 1))) (xs.drop (d + 1)))))) := by
  unfold WInv at h
  rw [h, List.drop_eq_getElem_cons hd, worldGo, take_snoc' xs d hd, List.map_append, ctorNames_snoc]; rfl
theorem WInv.bad1 {xs : List Dt} {d : Nat} (h : WInv xs d) (hd : d < xs.length) (e : dnameOk xs[d].name.data.toList = false) : worldOk xs = false := by
  rw [h.step hd, e]; rfl
theorem WInv.bad2 {xs : List Dt} {d : Nat} (h : WInv xs d) (hd : d < xs.length) (e : withinB (xs[d].ctors.length : Int) 1 4 = false) : worldOk xs = false := by
  rw [h.step hd, e, Bool.false_and, Bool.and_false, Bool.and_false]
theorem WInv.bad3 {xs : List Dt} {d : Nat} (h : WInv xs d) (hd : d < xs.length) (e : nameIn ((xs.take d).map Dt.name) xs[d].name = true) : worldOk xs = false := by
  rw [h.step hd, e, Bool.not_true, Bool.false_and, Bool.and_false]
theorem WInv.go {xs : List Dt} {d : Nat} (h : WInv xs d) (hd : d < xs.length) (e1 : dnameOk xs[d].name.data.toList = true) (e2 : withinB (xs[d].ctors.length : Int) 1 4 = true) : KInv xs d hd 0 := by
  unfold KInv
  have hne : xs[d].ctors ≠ [] := fun e => by
    rw [e] at e2
    simp [withinB] at e2
  rw [List.take_zero, List.map_nil, List.append_nil, List.drop_zero, ctorsSpec_eq _ _ _ _ hne, h.step hd, e1, e2, Bool.true_and, Bool.true_and, Bool.and_assoc]
theorem WInv.goI {xs : List Dt} {d : Nat} (h : WInv xs d) (hd : d < xs.length) (e1 : dnameOk xs[d].name.data.toList = true) (e2 : withinB (xs[d].ctors.length : Int) 1 4 = true) (e3 : nameIn ((xs.take d).map Dt.name) xs[d].name = false) : KInvI xs d hd 0 := by
  unfold KInvI
  rw [List.take_zero, List.map_nil, List.append_nil, List.drop_zero, h.step hd, e1, e2, e3, Bool.not_false, Bool.true_and, Bool.true_and, Bool.true_and]
theorem KInv.step {xs : List Dt} {d k : Nat} {hd : d < xs.length} (h : KInv xs d hd k) (hk : k < xs[d].ctors.length) :
    worldOk xs = ((ctorOkB xs.length xs[d].ctors[k] && (!twiceB (xs.take d) (xs[d].ctors.take k) xs[d].name xs[d].ctors[k].name && ctorsSpec xs.length (nameIn ((xs.take d).map Dt.name) xs[d].name) (ctorNames (xs.take d) ++ (xs[d].ctors.take (k + 1)).map Kt.name) (xs[d].ctors.drop (k + 1)))) && worldGo xs.length ((xs.take (d + 1)).map Dt.name) (ctorNames (xs.take (d + 1))) (xs.drop (d + 1))) := by
  unfold KInv at h
  rw [h, List.drop_eq_getElem_cons hk, ctorsSpec, take_snoc' _ k hk, List.map_append, ← List.append_assoc]; rfl
theorem KInv.bad1 {xs : List Dt} {d k : Nat} {hd : d < xs.length} (h : KInv xs d hd k) (hk : k < xs[d].ctors.length) (e : ctorOkB xs.length xs[d].ctors[k] = false) : worldOk xs = false := by
  rw [h.step hk, e]; rfl
theorem KInv.bad2 {xs : List Dt} {d k : Nat} {hd : d < xs.length} (h : KInv xs d hd k) (hk : k < xs[d].ctors.length) (e : twiceB (xs.take d) (xs[d].ctors.take k) xs[d].name xs[d].ctors[k].name = true) : worldOk xs = false := by
  rw [h.step hk, e, Bool.not_true, Bool.false_and, Bool.and_false, Bool.false_and]
theorem KInv.next {xs : List Dt} {d k : Nat} {hd : d < xs.length} (h : KInv xs d hd k) (hk : k < xs[d].ctors.length) (e1 : ctorOkB xs.length xs[d].ctors[k] = true) (e2 : twiceB (xs.take d) (xs[d].ctors.take k) xs[d].name xs[d].ctors[k].name = false) : KInv xs d hd (k + 1) := by
  have h' := h.step hk
  rw [e1, e2, Bool.not_false, Bool.true_and, Bool.true_and] at h'
  exact h'
theorem KInv.done {xs : List Dt} {d k : Nat} {hd : d < xs.length} (h : KInv xs d hd k) (hk : xs[d].ctors.length ≤ k) : WInv xs (d + 1) := by
  unfold KInv at h
  rw [List.drop_of_length_le hk, ctorsSpec, Bool.true_and] at h
  exact h
theorem KInvI.step {xs : List Dt} {d k : Nat} {hd : d < xs.length} (h : KInvI xs d hd k) (hk : k < xs[d].ctors.length) :
    worldOk xs = ((ctorOkB xs.length xs[d].ctors[k] && (!nameIn (ctorNames (xs.take d) ++ (xs[d].ctors.take k).map Kt.name) xs[d].ctors[k].name && ctorsGo xs.length (ctorNames (xs.take d) ++ (xs[d].ctors.take (k + 1)).map Kt.name) (xs[d].ctors.drop (k + 1)))) && worldGo xs.length ((xs.take (d + 1)).map Dt.name) (ctorNames (xs.take (d + 1))) (xs.drop (d + 1))) := by
  unfold KInvI at h
  rw [h, List.drop_eq_getElem_cons hk, ctorsGo, take_snoc' _ k hk, List.map_append, ← List.append_assoc]; rfl
theorem KInvI.bad1 {xs : List Dt} {d k : Nat} {hd : d < xs.length} (h : KInvI xs d hd k) (hk : k < xs[d].ctors.length) (e : ctorOkB xs.length xs[d].ctors[k] = false) : worldOk xs = false := by
  rw [h.step hk, e]; rfl
theorem KInvI.bad2 {xs : List Dt} {d k : Nat} {hd : d < xs.length} (h : KInvI xs d hd k) (hk : k < xs[d].ctors.length) (e : nameIn (ctorNames (xs.take d) ++ (xs[d].ctors.take k).map Kt.name) xs[d].ctors[k].name = true) : worldOk xs = false := by
  rw [h.step hk, e, Bool.not_true, Bool.false_and, Bool.and_false, Bool.false_and]
theorem KInvI.next {xs : List Dt} {d k : Nat} {hd : d < xs.length} (h : KInvI xs d hd k) (hk : k < xs[d].ctors.length) (e1 : ctorOkB xs.length xs[d].ctors[k] = true) (e2 : nameIn (ctorNames (xs.take d) ++ (xs[d].ctors.take k).map Kt.name) xs[d].ctors[k].name = false) : KInvI xs d hd (k + 1) := by
  have h' := h.step hk
  rw [e1, e2, Bool.not_false, Bool.true_and, Bool.true_and] at h'
  exact h'
theorem KInvI.done {xs : List Dt} {d k : Nat} {hd : d < xs.length} (h : KInvI xs d hd k) (hk : xs[d].ctors.length ≤ k) : WInv xs (d + 1) := by
  unfold KInvI at h
  rw [List.drop_of_length_le hk, ctorsGo, Bool.true_and] at h
  exact h
end Go.Proofs.YtilndhmegaccmaaGreatDoor

namespace Go.Proofs.YtilndhmegaccmaaGreatDoor
open Go.RowKit

set_option maxRecDepth 100000 in
set_option maxHeartbeats 1600000 in
theorem spec_WorldValid (xs : List Dt) (w : World) (v : Value) (F : List Nat) (hx : Arr w (DtR w) xs v F) (hf : Under w.heap.size F) :
    Calls Tryz.prog 38 #[v] w fun e w' => e = .returned (.bool (worldOk xs)) ∧ Below w.heap.size w w' := by
  obtain ⟨A, cap, rfl, hc1, hc2⟩ := hx.form
  have HX := Lib.hid hx
  have HF := Lib.hid hf
  clear hx hf
  by_cases h4 : xs.length ≤ 4
  · have H0 := Lib.hid (WInv.zero h4)
    go_enter Tryz.func38, Tryz.ntmps38
    go_wp2
    go_loopw [3] (fun iv wr => ∃ d : Nat, d ≤ xs.length ∧ iv = .int .i64 d ∧ Hid (WInv xs d) ∧ Below w.heap.size w wr) (fun iv _ => xs.length - (intOf iv).toNat)
    case atStart => exact ⟨0, Nat.zero_le _, rfl, H0, Below.refl _ _⟩
    case round =>
      obtain ⟨d, hd, rfl, HW, hB⟩ := hrel
      by_cases hlt : d < xs.length
      · obtain ⟨b, off, rfl⟩ := HX.out.ptr (by omega)
        obtain ⟨A1, cap1, G1, hb, c0, c1, HK, HG, hs, hn1, hn2⟩ := ArrDt.at HX.out HF.out hB d hlt
        have g1 : (0 : Int) ≤ (d : Int) := by omega
        have g2 : (d : Int) < (xs.length : Int) := by omega
        have HS := Lib.hid hs
        clear hs
        go_wp2_with fail
        refine (spec_l1Data xs[d].name wr (by unfold maxLen; exact HS.out)).mono ?_
        rintro e w1 ⟨rfl, rfl⟩
        cases e1 : dnameOk xs[d].name.data.toList with
        | false =>
          have hf := Lib.hid (HW.out.bad1 hlt e1)
          clear e1
          go_wp2
          go_ret
          exact ⟨ret_bool hf.out.symm, hB⟩
        | true =>
          have HE1 := Lib.hid e1
          clear e1
          by_cases hl0 : xs[d].ctors.length = 0
          · have t0 : ((xs[d].ctors.length : Int) == 0) = true := by simp [hl0]
            have hf := Lib.hid (HW.out.bad2 hlt (withinB_lo (by simp; omega)))
            clear hl0
            go_wp2
            go_ret
            exact ⟨ret_bool hf.out.symm, hB⟩
          · have t0 : ((xs[d].ctors.length : Int) == 0) = false := by simp; simpa using hl0
            by_cases hl5 : 4 < xs[d].ctors.length
            · have t1 : decide ((xs[d].ctors.length : Int) > 4) = true := by simp; omega
              have hf := Lib.hid (HW.out.bad2 hlt (by rw [withinB_hi (by simp; omega)]; simp; omega))
              clear hl0
              go_wp2
              go_ret
              exact ⟨ret_bool hf.out.symm, hB⟩
            · have t1 : decide ((xs[d].ctors.length : Int) > 4) = false := by simp; omega
              have HK0 := Lib.hid (HW.out.go hlt HE1.out ((withinB_iff _ _ _).2 ⟨by omega, by omega⟩))
              have hl1 : 0 < xs[d].ctors.length := by omega
              clear hl0
              go_wp2
              clear t0 t1 c0 c1
              obtain ⟨wo, hwo⟩ : ∃ wo : World, wo = wr := ⟨_, rfl⟩
              go_loopw [4] (fun jv ws => ∃ k : Nat, k ≤ xs[d].ctors.length ∧ jv = .int .i64 k ∧ Hid (KInv xs d hlt k) ∧ Below w.heap.size w ws) (fun jv _ => xs[d].ctors.length - (intOf jv).toNat)
              case atStart => exact ⟨0, Nat.zero_le _, rfl, HK0, hB⟩
              case round =>
                clear hwo
                obtain ⟨k, hk, rfl, HKI, hB2⟩ := hrel
                obtain ⟨A2, cap2, G2, hb2, c0, c1, HK2, HG2, -, hn3, hn4⟩ := ArrDt.at HX.out HF.out hB2 d hlt
                clear c0
                by_cases hkl : k < xs[d].ctors.length
                · obtain ⟨b2, off2, rfl⟩ := HK2.out.ptr (by omega)
                  obtain ⟨A3, cap3, G3, hb3, k0, k1, k2, HC, HG3, -, -, -⟩ := ArrKt.rep HK2.out HG2.out hB2 k hkl
                  have g3 : (0 : Int) ≤ (k : Int) := by omega
                  have g4 : (k : Int) < (xs[d].ctors.length : Int) := by omega
                  go_wp2_with fail
                  refine (spec_l1Ctor xs.length xs[d].ctors[k] _ _ _ (HC.out.below hB2 HG3.out) (HG3.out.mono hB2.size)).mono ?_
                  rintro e w2 ⟨rfl, hb2'⟩
                  have hB3 := hB2.trans (hb2'.mono hB2.size)
                  cases e2 : ctorOkB xs.length xs[d].ctors[k] with
                  | false =>
                    have hf := Lib.hid (HKI.out.bad1 hkl e2)
                    clear e2
                    go_wp2
                    go_ret
                    exact ⟨ret_bool hf.out.symm, hB3⟩
                  | true =>
                    have HE2 := Lib.hid e2
                    clear e2 k0 k1 k2 c1
                    go_wp2_with fail
                    refine (spec_l1Twice xs d k hlt hkl _ _ F (ArrDt.below HX.out hB3 HF.out) (HF.out.mono hB3.size)).mono ?_
                    rintro e w3 ⟨rfl, hb3'⟩
                    have hB4 := hB3.trans (hb3'.mono hB3.size)
                    cases e3 : twiceB (xs.take d) (xs[d].ctors.take k) xs[d].name xs[d].ctors[k].name with
                    | true =>
                      have hf := Lib.hid (HKI.out.bad2 hkl e3)
                      clear e3
                      go_wp2
                      go_ret
                      exact ⟨ret_bool hf.out.symm, hB4⟩
                    | false =>
                      have HK3 := Lib.hid (HKI.out.next hkl HE2.out e3)
                      clear e3
                      go_wp2
                      go_roundw
                      case rel => exact ⟨k + 1, by omega, by go_num, HK3, hB4⟩
                      case measure => (simp [intOf] <;> omega)
                · have HW2 := Lib.hid (HKI.out.done (by omega))
                  go_wp2
                  go_roundw
                  case rel => exact ⟨d + 1, by omega, by go_num, HW2, hB2⟩
                  case measure => (simp [intOf] <;> omega)
      · have hf := Lib.hid (HW.out.done (by omega))
        go_wp2
        go_ret
        exact ⟨ret_bool hf.out.symm, hB⟩
  · have hf := Lib.hid (worldOk_long h4)
    go_enter Tryz.func38, Tryz.ntmps38
    go_wp2
    go_ret
    exact ⟨ret_bool hf.out.symm, Below.refl _ _⟩
end Go.Proofs.YtilndhmegaccmaaGreatDoor

namespace Go.Proofs.YtilndhmegaccmaaGreatDoor
open Go.RowKit

set_option maxRecDepth 100000 in
set_option maxHeartbeats 1600000 in
theorem ctorOk_closure (A : Option Addr) (n cap : Nat) (t : Ty) (w : World) (g : Nat) (hn : n ≤ 9223372036854775807) (hg : w.cell? ⟨g, 0, none⟩ = some (.slice A n cap)) (hgl : g < w.heap.size) :
    Calls Tryz.prog 83 #[.agg #[.int .i64 t.d, .int .i64 t.i], .pointer (some ⟨g, 0, none⟩)] w fun e w' => e = .returned (.bool (!argOkB n t)) ∧ Below w.heap.size w w' := by
  have HN := Lib.hid hn
  clear hn
  go_enter Tryz.func83, Tryz.ntmps83
  go_wp2_with fail
  obtain ⟨W2, hW2⟩ : ∃ W2, W2 = w.alloc (.cells #[.int .i64 t.d, .int .i64 t.i] 33) := ⟨_, rfl⟩
  have hB2 : Below w.heap.size w W2 := by rw [hW2]; exact (Below.refl _ _).alloc (Nat.le_refl _) _
  rw [← hW2]
  clear hW2
  refine (impl_argOk A n cap t W2 HN.out).mono ?_
  rintro e w' ⟨rfl, hB'⟩
  have hB3 := hB2.trans (hB'.mono hB2.size)
  generalize hbb : argOkB n t = bb
  have HBB := Lib.hid hbb
  clear hbb
  go_wp2
  go_ret
  exact ⟨ret_bool (by rw [HBB.out]), hB3⟩

set_option maxRecDepth 100000 in
set_option maxHeartbeats 1600000 in
theorem IndexFunc_Ty (A0 : Option Addr) (n cap0 : Nat) (xs : List Ty) (r : Int) (hr : FirstAt (fun t => !argOkB n t) xs r) (w : World) (x : Value) (F : List Nat) (g : Nat) (hn : n ≤ 9223372036854775807) (hg : w.cell? ⟨g, 0, none⟩ = some (.slice A0 n cap0)) (hgl : g < w.heap.size) (hx : Arr w (TyR w) xs x F) (hF : Under w.heap.size F) :
    Calls Tryz.prog 92 #[x, .func (.func 83) #[] #[.pointer (some ⟨g, 0, none⟩)]] w fun e w' => e = .returned (.int .i64 r) ∧ Below w.heap.size w w' := by
  have HX := Lib.hid hx
  obtain ⟨A, cap, rfl, hc1, hc2⟩ := hx.form
  clear hx
  have HF := Lib.hid hF
  clear hF
  have HG0 := Lib.hid hg
  have HN := Lib.hid hn
  have HR := Lib.hid hr
  clear hg hn hr
  go_enter Tryz.func92, Tryz.ntmps92
  go_wp2
  go_loopw [8] (fun i wr => ∃ k : Nat, k ≤ xs.length ∧ i = .int .i64 k ∧ Hid (∀ j (hj : j < xs.length), j < k → (!argOkB n xs[j]) = false) ∧ Below w.heap.size w wr) (fun i _ => xs.length - (intOf i).toNat)
  case atStart => exact ⟨0, Nat.zero_le _, rfl, fun j hj h => by omega, Below.refl _ _⟩
  case round =>
    obtain ⟨k, hk, rfl, HT, hB⟩ := hrel
    by_cases hlt : k < xs.length
    · have hi0 : (0 : Int) ≤ (k : Int) := by omega
      have hi1 : (k : Int) < (xs.length : Int) := by omega
      obtain ⟨b, off, cs, G, rfl, hb, hcs, hv, -⟩ := HX.out.get TyR_len hlt
      have hbl := HF.out b hb
      have hcs := hcs.same (hB.block b hbl)
      obtain rfl := TyR_form hv
      have c0 := hcs 0 _ rfl
      have c1 := hcs 1 _ rfl
      simp only [Nat.add_zero] at c0
      clear hcs hv hb
      have hbw := Nat.lt_of_lt_of_le hbl hB.size
      go_wp2_with fail
      refine (ctorOk_closure A0 n cap0 xs[k] wr g HN.out ((hB.cell (p := ⟨g, 0, none⟩) hgl).trans HG0.out) (Nat.lt_of_lt_of_le hgl hB.size)).mono ?_
      rintro e w' ⟨rfl, hB'⟩
      have hB3 := hB.trans (hB'.mono hB.size)
      cases hq : argOkB n xs[k] with
      | false =>
        have hf : Hid (r = (k : Int)) := HR.out.hit hlt (by simp [hq]) (fun j hj h => HT.out j hj h)
        clear hq
        go_wp2
        go_ret
        exact ⟨ret_int hf.out.symm, hB3⟩
      | true =>
        have hT2 : Hid (∀ j (hj : j < xs.length), j < k + 1 → (!argOkB n xs[j]) = false) := fun j hj h => by
          rcases Nat.lt_or_ge j k with h2 | h2
          · exact HT.out j hj h2
          · obtain rfl : j = k := by omega
            rw [hq]; rfl
        clear hq
        go_wp2
        go_roundw
        case rel => exact ⟨k + 1, by omega, by go_num, hT2, hB3⟩
        case measure => simp [intOf]; omega
    · have hf : Hid (r = -1) := HR.out.miss (fun j hj => HT.out j hj (by omega))
      go_wp2
      go_ret
      exact ⟨ret_int hf.out.symm, hB⟩

set_option maxRecDepth 100000 in
set_option maxHeartbeats 1600000 in
theorem ContainsFunc_Ty (A0 : Option Addr) (n cap0 : Nat) (xs : List Ty) (w : World) (x : Value) (F : List Nat) (g : Nat) (hn : n ≤ 9223372036854775807) (hg : w.cell? ⟨g, 0, none⟩ = some (.slice A0 n cap0)) (hgl : g < w.heap.size) (hx : Arr w (TyR w) xs x F) (hF : Under w.heap.size F) :
    Calls Tryz.prog 82 #[x, .func (.func 83) #[] #[.pointer (some ⟨g, 0, none⟩)]] w fun e w' => e = .returned (.bool (xs.any fun t => !argOkB n t)) ∧ Below w.heap.size w w' := by
  obtain ⟨r, hr⟩ := FirstAt.ex (fun t => !argOkB n t) xs
  have hf : Hid ((xs.any fun t => !argOkB n t) = decide (0 ≤ r)) := hr.any
  have hcall := IndexFunc_Ty A0 n cap0 xs r hr w x F g hn hg hgl hx hF
  obtain ⟨A, cap, rfl, hc1, hc2⟩ := hx.form
  have HC := Lib.hid hcall
  clear hcall hr hx hF hn hg
  go_enter Tryz.func82, Tryz.ntmps82
  go_wp2_with fail
  refine HC.out.mono ?_
  rintro e w' ⟨rfl, hB'⟩
  go_wp2
  go_ret
  exact ⟨ret_bool hf.out.symm, hB'⟩
theorem any_not_all {α : Type} (p : α → Bool) (l : List α) : (!(l.any fun t => !p t)) = l.all p := by
  induction l with
  | nil => rfl
  | cons x xs ih => rw [List.any_cons, List.all_cons, Bool.not_or, ih, Bool.not_not]

set_option maxRecDepth 100000 in
set_option maxHeartbeats 1600000 in
theorem impl_ctorOk (A0 : Option Addr) (n cap0 : Nat) (c : Kt) (w : World) (cs : List Value) (F : List Nat) (hn : n ≤ 9223372036854775807) (hv : KtR w c cs F) (hF : Under w.heap.size F) :
    Calls Tryz.prog 64 #[.slice A0 n cap0, .agg cs.toArray] w fun e w' => e = .returned (.bool (ctorOkB n c)) ∧ Below w.heap.size w w' := by
  obtain ⟨kv, rfl, ha, hs⟩ := hv
  have HX := Lib.hid ha
  obtain ⟨A, cap, rfl, hc1, hc2⟩ := ha.form
  clear ha
  have HF := Lib.hid hF
  have HS := Lib.hid hs
  have HN := Lib.hid hn
  clear hF hs hn
  go_enter Tryz.func64, Tryz.ntmps64
  go_wp2_with fail
  obtain ⟨W2, hW2⟩ : ∃ W2, W2 = (w.alloc (.cells #[.slice A0 n cap0] 31)).alloc (.cells #[.string c.name, .slice A c.args.length cap, .int .i64 c.idx] 60) := ⟨_, rfl⟩
  have hB2 : Below w.heap.size w W2 := by rw [hW2]; exact ((Below.refl _ _).alloc (Nat.le_refl _) _).alloc (by simp) _
  have k1 : Blk W2 w.heap.size 31 #[.slice A0 n cap0] := by rw [hW2]; exact (Blk.new w _ _).same (Below.heap_alloc _ _ _ (by simp))
  have k2 : Blk W2 (w.heap.size + 1) 60 #[.string c.name, .slice A c.args.length cap, .int .i64 c.idx] := by rw [hW2]; have := Blk.new (w.alloc (.cells #[.slice A0 n cap0] 31)) 60 #[.string c.name, .slice A c.args.length cap, .int .i64 c.idx]; simpa using this
  rw [← hW2]
  clear hW2
  have x0 : W2.cell? ⟨w.heap.size, 0, none⟩ = some (.slice A0 n cap0) := (k1.cell 0).trans (by simp)
  have x1 : W2.cell? ⟨w.heap.size + 1, 1, none⟩ = some (.slice A c.args.length cap) := (k2.cell 1).trans (by simp)
  have x2 : W2.cell? ⟨w.heap.size + 1, 2, none⟩ = some (.int .i64 c.idx) := (k2.cell 2).trans (by simp)
  have hlt0 := k1.lt
  clear k1 k2
  refine (impl_NameValid c.name W2 (by have := HS.out; unfold maxLen; omega)).mono ?_
  rintro e w' ⟨rfl, rfl⟩
  have h0 : ctorOkB n c = (nameOk c.name.data.toList && (decide ((c.args.length : Int) ≤ 3) && (withinB c.idx 0 3 && c.args.all (argOkB n)))) := rfl
  cases hn : nameOk c.name.data.toList with
  | false =>
    have hf : Hid (ctorOkB n c = false) := by rw [h0, hn]; rfl
    clear hn h0
    go_wp2
    go_ret
    exact ⟨ret_bool hf.out.symm, hB2⟩
  | true =>
    rw [hn, Bool.true_and] at h0
    clear hn
    cases hl : decide ((c.args.length : Int) ≤ 3) with
    | false =>
      have hf : Hid (ctorOkB n c = false) := by rw [h0, hl]; rfl
      clear h0
      go_wp2
      go_ret
      exact ⟨ret_bool hf.out.symm, hB2⟩
    | true =>
      rw [hl, Bool.true_and] at h0
      have H0 := Lib.hid h0
      clear h0
      go_wp2_with fail
      refine (impl_within c.idx 0 3 W2).mono ?_
      rintro e w' ⟨rfl, rfl⟩
      cases hi : withinB c.idx 0 3 with
      | false =>
        have hf : Hid (ctorOkB n c = false) := by rw [H0.out, hi]; rfl
        clear hi
        go_wp2
        go_ret
        exact ⟨ret_bool hf.out.symm, hB2⟩
      | true =>
        have hf : Hid (ctorOkB n c = !(c.args.any fun t => !argOkB n t)) := by rw [H0.out, hi, Bool.true_and, any_not_all]; rfl
        clear hi
        go_wp2_with fail
        refine (ContainsFunc_Ty A0 n cap0 c.args W2 _ F w.heap.size HN.out x0 hlt0 (ArrTy.below HX.out hB2 HF.out) (HF.out.mono hB2.size)).mono ?_
        rintro e w' ⟨rfl, hB'⟩
        have hB3 := hB2.trans (hB'.mono hB2.size)
        generalize hbb : (c.args.any fun t => !argOkB n t) = bb
        have HBB := Lib.hid hbb
        clear hbb
        go_wp2
        go_ret
        exact ⟨ret_bool (by rw [hf.out, HBB.out]), hB3⟩
end Go.Proofs.YtilndhmegaccmaaGreatDoor

namespace Go.Proofs.YtilndhmegaccmaaGreatDoor
open Go.RowKit

theorem plainElem_bool_inv {H : Type} {P : Program} {e : TypeId} (he : P.underlying e = some .bool) {v : Value} {z : DataW H × List MemPlace} (h : Go.plainElem P e v = some z) : ∃ a, v = .bool a ∧ z = (.lit (.bool a), []) := by
  unfold Go.plainElem at h
  rw [he] at h
  cases v <;> simp at h
  exact ⟨_, rfl, h.symm⟩

theorem lookup_bool {H : Type} {P : Program} {k t e : TypeId} {w : World} {b n : Nat} {D : DataW H} (h : w.ownsMap P k (Go.plainElem P e) b n D) (K : Go.Maps.Keyed P k) (ht : P.underlying t = some (.map k e)) (he : P.underlying e = some .bool) (hz : (zeroValue e).run P w = .ok (.bool false) w)
    {key : Value} {kl : Lit} (hkey : Go.keyOf P k key = some kl) : ∃ c, (Instr.lookup t (.map (some b)) key false).run P w = .ok (.bool c) w ∧ D.atKey kl (.lit (.bool false)) = .lit (.bool c) := by
  obtain ⟨v, ps, hrun, hv⟩ := h.lookup K ht hz (plainElem_bool he false) hkey
  obtain ⟨c, rfl, hc⟩ := plainElem_bool_inv he hv
  simp only [Prod.mk.injEq] at hc
  exact ⟨c, hrun, hc.1⟩
end Go.Proofs.YtilndhmegaccmaaGreatDoor

namespace Go.Proofs.YtilndhmegaccmaaGreatDoor
open Go.RowKit

open Go.Maps
def strLit (s : ByteArray) : Lit := .string s.data.toList
theorem strLit_same (a b : ByteArray) : (strLit a).sameKey (strLit b) = (a.toList == b.toList) := by
  rw [ByteArray.toList_eq, ByteArray.toList_eq]; rfl
theorem any_same (names : List ByteArray) (s : ByteArray) : ((names.map strLit).any fun x => x.sameKey (strLit s)) = nameIn names s := by
  induction names with
  | nil => rfl
  | cons x xs ih => rw [List.map_cons, List.any_cons, ih, strLit_same]; rfl
theorem isKey_str (s : ByteArray) : WideAt.IsKeyLit (strLit s) := trivial
theorem atKey_setOf {H : Type} (u z : DataW H) (k : Lit) (acc : List Lit) (ha : ∀ x ∈ acc, WideAt.IsKeyLit x) (hk : WideAt.IsKeyLit k) : (setOf u acc).atKey k z = if acc.any (fun x => x.sameKey k) then u else z := by
  cases h : acc.any (fun x => x.sameKey k) with
  | false =>
    rw [if_neg (by simp)]
    exact atKey_of_not_has ((has_setOf u k acc ha).trans h) z
  | true =>
    rw [if_pos rfl]
    revert h
    have key : ∀ n (acc : List Lit), acc.length = n → (∀ x ∈ acc, WideAt.IsKeyLit x) → acc.any (fun x => x.sameKey k) = true → (setOf u acc).atKey k z = u := by
      intro n
      induction n with
      | zero => intro acc hl _ h; rw [List.length_eq_zero_iff.1 hl] at h; simp at h
      | succ n ih =>
        intro acc hl ha h
        obtain ⟨l, x, rfl⟩ : ∃ l x, acc = l ++ [x] := ⟨acc.dropLast, acc.getLast (by intro e; rw [e] at hl; simp at hl), (List.dropLast_concat_getLast _).symm⟩
        rw [setOf_snoc]
        have hl' : ∀ y ∈ l, WideAt.IsKeyLit y := fun y hy => ha y (List.mem_append.2 (.inl hy))
        by_cases e : k = x
        · subst e
          exact atKey_put_same (tidy_setOf u l hl').isMap hk u z
        · rw [atKey_put_other e]
          refine ih l (by simpa using hl) hl' ?_
          rw [List.any_append, Bool.or_eq_true] at h
          rcases h with h | h
          · exact h
          · simp only [List.any_cons, List.any_nil, Bool.or_false] at h
            exact absurd ((WideAt.sameKey_iff hk).1 h).symm e
    exact key _ acc rfl ha

theorem lawS : Maps.Keyed Tryz.prog 9 := string_keyed Tryz.underlying9
theorem zeroB (w : World) : (zeroValue 4).run Tryz.prog w = .ok (.bool false) w := by kernel_rfl

/-- block b is a map[string]bool of the call's own whose keys are these names -/
def OwnsNames (w : World) (b : Nat) (names : List ByteArray) : Prop := w.ownsMap (H := Unit) Tryz.prog 9 (Go.plainElem Tryz.prog 4) b names.length (setOf (.lit (.bool true)) (names.map strLit))
theorem OwnsNames.made (w : World) : OwnsNames (w.alloc (.map #[] 0)) w.heap.size [] := World.ownsMap_made w _ _ _
theorem OwnsNames.kept {w w' : World} {b : Nat} {names : List ByteArray} {row : Option Nat} (h : OwnsNames w b names) (hg : w.grownBy w' row) (hne : some b ≠ row) : OwnsNames w' b names := World.ownsMap.kept h hg hne
theorem OwnsNames.below {w w' : World} {b : Nat} {names : List ByteArray} (h : OwnsNames w b names) (hb : Below w.heap.size w w') : OwnsNames w' b names :=
  h.kept (row := none) ⟨hb.os, hb.tape, hb.output, hb.size, fun k hk _ => hb.block k hk⟩ (by simp)
theorem OwnsNames.alloc {w : World} {b : Nat} {names : List ByteArray} (h : OwnsNames w b names) (o : Obj) : OwnsNames (w.alloc o) b names := World.ownsMap.alloc h o
theorem OwnsNames.lt {w : World} {b : Nat} {names : List ByteArray} (h : OwnsNames w b names) : b < w.heap.size := World.ownsMap.lt h
theorem keyS (s : ByteArray) (hs : s.size ≤ maxLen) : Go.keyOf Tryz.prog 9 (.string s) = some (strLit s) := Go.WideMaps.keyOf_string_mk Tryz.underlying9 hs
theorem OwnsNames.look {w : World} {b : Nat} {names : List ByteArray} (h : OwnsNames w b names) (s : ByteArray) (hs : s.size ≤ maxLen) : (Instr.lookup 96 (.map (some b)) (.string s) false).run Tryz.prog w = .ok (.bool (nameIn names s)) w := by
  obtain ⟨c, hr, hc⟩ := lookup_bool h lawS Tryz.underlying96 Tryz.underlying4 (zeroB w) (keyS s hs)
  rw [hr, atKey_setOf _ _ _ _ (fun x hx => by obtain ⟨y, -, rfl⟩ := List.mem_map.1 hx; exact isKey_str y) (isKey_str s), any_same] at *
  cases hn : nameIn names s <;> rw [hn] at hc
  · rw [if_neg (by simp)] at hc; cases hc; rfl
  · rw [if_pos rfl] at hc; cases hc; rfl
theorem OwnsNames.put {w : World} {b : Nat} {names : List ByteArray} (h : OwnsNames w b names) (s : ByteArray) (w' : World) (h' : w'.ownsMap (H := Unit) Tryz.prog 9 (Go.plainElem Tryz.prog 4) b (names.length + 1) ((setOf (.lit (.bool true)) (names.map strLit)).put (strLit s) (.lit (.bool true)))) : OwnsNames w' b (names ++ [s]) := by
  unfold OwnsNames
  rw [List.map_append, List.map_cons, List.map_nil, setOf_snoc, List.length_append]
  exact h'
theorem OwnsNames.add {w : World} {b : Nat} {names : List ByteArray} (h : OwnsNames w b names) (hn : names.length < 1000000) (s : ByteArray) (hs : s.size ≤ maxLen) :
    ∃ w', (Instr.mapUpdate 96 (.map (some b)) (.string s) (.bool true)).run Tryz.prog w = .ok () w' ∧ OwnsNames w' b (names ++ [s]) ∧ w.grownBy w' (some b) := by
  obtain ⟨w', hr, h1, h2⟩ := World.ownsMap.update h lawS Tryz.underlying96 (by unfold maxLen; omega) (keyS s hs) (plainElem_bool Tryz.underlying4 true)
  exact ⟨w', hr, h.put s w' h1, h2⟩
theorem ctorNames_len (xs : List Dt) (h : ∀ x ∈ xs, x.ctors.length ≤ 4) : (ctorNames xs).length ≤ 4 * xs.length := by
  induction xs with
  | nil => simp [ctorNames]
  | cons x xs ih =>
    have h1 := h x (by simp)
    have h2 := ih fun y hy => h y (by simp [hy])
    simp only [ctorNames, List.flatMap_cons, List.length_append, List.length_map, List.length_cons] at h2 ⊢
    omega
theorem dname_one {s : ByteArray} (h : s.size = 1) (p : 0 < s.size) : dnameOk s.data.toList = (bigB (s[0]'p) && !(s.toList == [73])) := by
  rw [ByteArray.toList_eq, one_byte s h]
  show (bigB (s[0]'p) && !(s[0] == 73)) = _
  congr 2
  simp
theorem dname_not {s : ByteArray} (h : s.size ≠ 1) : dnameOk s.data.toList = false := by
  have hl : s.data.toList.length ≠ 1 := by simpa using h
  generalize s.data.toList = l at *
  match l, hl with
  | [], _ => rfl
  | [c], hl => simp at hl
  | _ :: _ :: _, _ => rfl

set_option maxRecDepth 100000 in
set_option maxHeartbeats 1600000 in
theorem impl_WorldValid (xs : List Dt) (w : World) (v : Value) (F : List Nat) (hx : Arr w (DtR w) xs v F) (hf : Under w.heap.size F) :
    Calls Tryz.prog 45 #[v] w fun e w' => e = .returned (.bool (worldOk xs)) ∧ Below w.heap.size w w' := by
  obtain ⟨A, cap, rfl, hc1, hc2⟩ := hx.form
  have hn : xs.length ≤ 9223372036854775807 := by omega
  have HX := Lib.hid hx
  have HF := Lib.hid hf
  have HN := Lib.hid hn
  clear hx hf hn
  by_cases h4 : xs.length ≤ 4
  · have H0 := Lib.hid (WInv.zero h4)
    have hmm := @run_makeMap Tryz.prog
    go_enter Tryz.func45, Tryz.ntmps45
    go_wp2
    clear hmm
    have HM0 : Hid (OwnsNames ((w.alloc (.map #[] 0)).alloc (.map #[] 0)) w.heap.size (ctorNames (xs.take 0))) := (OwnsNames.made w).alloc _
    have HD0 : Hid (OwnsNames ((w.alloc (.map #[] 0)).alloc (.map #[] 0)) (w.heap.size + 1) ((xs.take 0).map Dt.name)) := by
      have := OwnsNames.made (w.alloc (.map #[] 0))
      rwa [World.size_alloc] at this
    go_loopw [16] (fun iv wr => ∃ d : Nat, d ≤ xs.length ∧ iv = .int .i64 d ∧ Hid (WInv xs d) ∧ Below w.heap.size w wr ∧ Hid (OwnsNames wr (w.heap.size + 1) ((xs.take d).map Dt.name)) ∧ Hid (OwnsNames wr w.heap.size (ctorNames (xs.take d))) ∧ Hid (∀ x ∈ xs.take d, x.ctors.length ≤ 4) ∧ w.heap.size + 1 < wr.heap.size) (fun iv _ => xs.length - (intOf iv).toNat)
    case atStart => exact ⟨0, Nat.zero_le _, rfl, H0, ((Below.refl _ _).alloc (Nat.le_refl _) _).alloc (by simp) _, HD0, HM0, fun x hx => by simp at hx, by simp⟩
    case round =>
      obtain ⟨d, hd, rfl, HW, hB, HD, HM, H4, hz⟩ := hrel
      by_cases hlt : d < xs.length
      · obtain ⟨b, off, rfl⟩ := HX.out.ptr (by omega)
        obtain ⟨A1, cap1, G1, hb, c0, c1, HK, HG, hs, hn1, hn2⟩ := ArrDt.at HX.out HF.out hB d hlt
        have g1 : (0 : Int) ≤ (d : Int) := by omega
        have g2 : (d : Int) < (xs.length : Int) := by omega
        have hsm : xs[d].name.size ≤ maxLen := by unfold maxLen; exact hs
        have HS := Lib.hid hsm
        clear hs hsm
        have hlk := (HD.out.alloc (.cells #[.string xs[d].name, .slice A1 xs[d].ctors.length cap1] 50)).look xs[d].name HS.out
        by_cases h1 : xs[d].name.size = 1
        · have t1 : ((xs[d].name.size : Int) != 1) = false := by simp [h1]
          have p0 : 0 < xs[d].name.size := by omega
          have hdn := dname_one h1 p0
          clear h1
          cases hlo : decide ((65 : Int) ≤ (xs[d].name[0].toNat : Int)) with
          | false =>
            have t2 : decide ((xs[d].name[0].toNat : Int) < 65) = true := by simp at hlo ⊢; omega
            have hf := Lib.hid (HW.out.bad1 hlt (by rw [hdn]; unfold bigB; rw [hlo]; rfl))
            clear hdn hlo hlk
            go_wp2
            go_ret
            exact ⟨ret_bool hf.out.symm, hB.alloc hB.size _⟩
          | true =>
            have t2 : decide ((xs[d].name[0].toNat : Int) < 65) = false := by simp at hlo ⊢; omega
            cases hhi : decide ((xs[d].name[0].toNat : Int) ≤ 90) with
            | false =>
              have t3 : decide ((xs[d].name[0].toNat : Int) > 90) = true := by simp at hhi ⊢; omega
              have hf := Lib.hid (HW.out.bad1 hlt (by rw [hdn]; unfold bigB; rw [hlo, hhi]; rfl))
              clear hdn hlo hhi hlk
              go_wp2
              go_ret
              exact ⟨ret_bool hf.out.symm, hB.alloc hB.size _⟩
            | true =>
              have t3 : decide ((xs[d].name[0].toNat : Int) > 90) = false := by simp at hhi ⊢; omega
              have hbig : bigB xs[d].name[0] = true := by unfold bigB; rw [hlo, hhi]; rfl
              clear hlo hhi
              rw [hbig, Bool.true_and] at hdn
              clear hbig
              cases t4 : (xs[d].name.toList == [73]) with
              | true =>
                have hf := Lib.hid (HW.out.bad1 hlt (by rw [hdn, t4]; rfl))
                clear hdn hlk
                go_wp2
                go_ret
                exact ⟨ret_bool hf.out.symm, hB.alloc hB.size _⟩
              | false =>
                rw [t4] at hdn
                have HDN := Lib.hid hdn
                clear hdn
                cases e3 : nameIn ((xs.take d).map Dt.name) xs[d].name with
                | true =>
                  have hf := Lib.hid (HW.out.bad3 hlt e3)
                  rw [e3] at hlk
                  clear e3
                  go_wp2
                  go_ret
                  exact ⟨ret_bool hf.out.symm, hB.alloc hB.size _⟩
                | false =>
                  rw [e3] at hlk
                  have HE3 := Lib.hid e3
                  clear e3
                  cases e4 : withinB (xs[d].ctors.length : Int) 1 4 with
                  | false =>
                    have hf := Lib.hid (HW.out.bad2 hlt e4)
                    have HE4 := Lib.hid e4
                    clear e4
                    go_wp2_with fail
                    refine (impl_within (xs[d].ctors.length : Int) 1 4 _).mono ?_
                    rintro e w2 ⟨rfl, rfl⟩
                    rw [HE4.out]
                    go_wp2
                    go_ret
                    exact ⟨ret_bool hf.out.symm, hB.alloc hB.size _⟩
                  | true =>
                    have HK0 := Lib.hid (HW.out.goI hlt HDN.out e4 HE3.out)
                    have h5 : xs[d].ctors.length ≤ 4 := by have := (withinB_iff _ _ _).1 e4; omega
                    have H5 := Lib.hid h5
                    have HE4 := Lib.hid e4
                    clear e4 h5
                    obtain ⟨w2, hrun2, hm2, hg2⟩ := (HD.out.alloc (.cells #[.string xs[d].name, .slice A1 xs[d].ctors.length cap1] 50)).add (by rw [List.length_map, List.length_take]; omega) xs[d].name HS.out
                    have k2 := Blk.new wr 50 #[.string xs[d].name, .slice A1 xs[d].ctors.length cap1]
                    have k3 := k2.same (hg2.block _ k2.lt (by have := HD.out.lt; simp; omega))
                    have x1 : w2.cell? ⟨wr.heap.size, 1, none⟩ = some (.slice A1 xs[d].ctors.length cap1) := (k3.cell 1).trans (by simp)
                    have hx1 := k3.lt
                    clear k2 k3
                    have hBa : Below w.heap.size w (wr.alloc (.cells #[.string xs[d].name, .slice A1 xs[d].ctors.length cap1] 50)) := hB.alloc hB.size _
                    have hB3 := hBa.grown hg2 hBa.size (fun _ h => by cases h; omega)
                    have HM3 : Hid (OwnsNames w2 w.heap.size (ctorNames (xs.take d) ++ (xs[d].ctors.take 0).map Kt.name)) := by
                      rw [List.take_zero, List.map_nil, List.append_nil]
                      exact (HM.out.alloc _).kept hg2 (by simp)
                    have HD3 : Hid (OwnsNames w2 (w.heap.size + 1) ((xs.take (d + 1)).map Dt.name)) := by
                      rw [take_snoc' xs d hlt, List.map_append]; exact hm2
                    have hz3 : w.heap.size + 1 < w2.heap.size := by have := hg2.size; simp at this; omega
                    clear hm2 hg2 hBa HD HM hz
                    go_wp2_with fail
                    refine (impl_within (xs[d].ctors.length : Int) 1 4 _).mono ?_
                    rintro e w2' ⟨rfl, rfl⟩
                    rw [HE4.out]
                    go_wp2
                    clear x1 hx1 hrun2 hlk t1 t2 t3 t4 c0 c1
                    obtain ⟨wo, hwo⟩ : ∃ wo : World, wo = w2 := ⟨_, rfl⟩
                    go_loopw [60] (fun jv ws => ∃ k : Nat, k ≤ xs[d].ctors.length ∧ jv = .int .i64 k ∧ Hid (KInvI xs d hlt k) ∧ Below w.heap.size w ws ∧ Hid (OwnsNames ws (w.heap.size + 1) ((xs.take (d + 1)).map Dt.name)) ∧ Hid (OwnsNames ws w.heap.size (ctorNames (xs.take d) ++ (xs[d].ctors.take k).map Kt.name)) ∧ w.heap.size + 1 < ws.heap.size) (fun jv _ => xs[d].ctors.length - (intOf jv).toNat)
                    case atStart => exact ⟨0, Nat.zero_le _, rfl, HK0, hB3, HD3, HM3, hz3⟩
                    case round =>
                      clear hwo hz3 hB3 hB
                      obtain ⟨k, hk, rfl, HKI, hB, HD, HM, hz⟩ := hrel
                      by_cases hkl : k < xs[d].ctors.length
                      · obtain ⟨b2, off2, rfl⟩ := HK.out.ptr (by omega)
                        obtain ⟨A3, cap3, G3, hb3, k0, k1, k2, HC, HG3, hs3, -, -⟩ := ArrKt.rep HK.out HG.out hB k hkl
                        have g3 : (0 : Int) ≤ (k : Int) := by omega
                        have g4 : (k : Int) < (xs[d].ctors.length : Int) := by omega
                        have HS3 := Lib.hid hs3
                        clear hs3
                        go_wp2_with fail
                        obtain ⟨W4, hW4⟩ : ∃ W4, W4 = wr.alloc (.cells #[.string xs[d].ctors[k].name, .slice A3 xs[d].ctors[k].args.length cap3, .int .i64 xs[d].ctors[k].idx] 60) := ⟨_, rfl⟩
                        have hb4 : Below wr.heap.size wr W4 := by rw [hW4]; exact (Below.refl _ _).alloc (Nat.le_refl _) _
                        have k4 : Blk W4 wr.heap.size 60 #[.string xs[d].ctors[k].name, .slice A3 xs[d].ctors[k].args.length cap3, .int .i64 xs[d].ctors[k].idx] := by rw [hW4]; exact Blk.new _ _ _
                        rw [← hW4]
                        clear hW4
                        have hB4 := hB.trans (hb4.mono hB.size)
                        refine (impl_ctorOk _ xs.length cap xs[d].ctors[k] W4 _ _ HN.out (HC.out.below hB4 HG3.out) (HG3.out.mono hB4.size)).mono ?_
                        rintro e w5 ⟨rfl, hb5⟩
                        have hB5 := hB4.trans (hb5.mono hB4.size)
                        have k5 := k4.same (hb5.block _ k4.lt)
                        have x0 : w5.cell? ⟨wr.heap.size, 0, none⟩ = some (.string xs[d].ctors[k].name) := (k5.cell 0).trans (by simp)
                        have hx0 := k5.lt
                        clear k4 k5 k0 k1 k2
                        have HD5 := Lib.hid ((HD.out.below hb4).below hb5)
                        have HM5 := Lib.hid ((HM.out.below hb4).below hb5)
                        have hlk := HM5.out.look xs[d].ctors[k].name (by unfold maxLen; exact HS3.out)
                        cases e2 : ctorOkB xs.length xs[d].ctors[k] with
                        | false =>
                          have hf := Lib.hid (HKI.out.bad1 hkl e2)
                          clear e2 hlk
                          go_wp2
                          go_ret
                          exact ⟨ret_bool hf.out.symm, hB5⟩
                        | true =>
                          cases e3 : nameIn (ctorNames (xs.take d) ++ (xs[d].ctors.take k).map Kt.name) xs[d].ctors[k].name with
                          | true =>
                            have hf := Lib.hid (HKI.out.bad2 hkl e3)
                            rw [e3] at hlk
                            clear e2 e3
                            go_wp2
                            go_ret
                            exact ⟨ret_bool hf.out.symm, hB5⟩
                          | false =>
                            have HK3 := Lib.hid (HKI.out.next hkl e2 e3)
                            rw [e3] at hlk
                            clear e2 e3
                            obtain ⟨w6, hrun6, hm6, hg6⟩ := HM5.out.add (by
                              have h1 := ctorNames_len (xs.take d) (fun x hx => H4.out x hx)
                              have h2 : (xs.take d).length ≤ 4 := by rw [List.length_take]; omega
                              have h3 := H5.out
                              simp only [List.length_append, List.length_map, List.length_take]
                              omega) xs[d].ctors[k].name (by unfold maxLen; exact HS3.out)
                            have hB6 := hB5.grown hg6 hB5.size (fun _ h => by cases h; exact Nat.le_refl _)
                            have HD6 := Lib.hid (HD5.out.kept hg6 (by simp))
                            have HM6 : Hid (OwnsNames w6 w.heap.size (ctorNames (xs.take d) ++ (xs[d].ctors.take (k + 1)).map Kt.name)) := by
                              rw [take_snoc' _ k hkl, List.map_append, ← List.append_assoc]; exact hm6
                            have hz6 : w.heap.size + 1 < w6.heap.size := Nat.lt_of_lt_of_le hz (Nat.le_trans hb4.size (Nat.le_trans hb5.size hg6.size))
                            clear hm6 hg6 hb5 hb4 HD5 HM5 hB4 hB5 hB
                            go_wp2
                            go_roundw
                            case rel => exact ⟨k + 1, by omega, by go_num, HK3, hB6, HD6, HM6, hz6⟩
                            case measure => (simp [intOf] <;> omega)
                      · have HW2 := Lib.hid (HKI.out.done (by omega))
                        have HM6 : Hid (OwnsNames wr w.heap.size (ctorNames (xs.take (d + 1)))) := by
                          have h := HM.out
                          rw [List.take_of_length_le (show xs[d].ctors.length ≤ k by omega), ← ctorNames_snoc, ← take_snoc' xs d hlt] at h
                          exact h
                        have H6 : Hid (∀ x ∈ xs.take (d + 1), x.ctors.length ≤ 4) := fun x hx => by
                          rw [take_snoc' xs d hlt] at hx
                          rcases List.mem_append.1 hx with h | h
                          · exact H4.out x h
                          · rw [List.mem_singleton.1 h]; exact H5.out
                        go_wp2
                        go_roundw
                        case rel => exact ⟨d + 1, by omega, by go_num, HW2, hB, HD, HM6, H6, hz⟩
                        case measure => (simp [intOf] <;> omega)
        · have t1 : ((xs[d].name.size : Int) != 1) = true := by simp; omega
          have hf := Lib.hid (HW.out.bad1 hlt (dname_not h1))
          clear h1 hlk
          go_wp2
          go_ret
          exact ⟨ret_bool hf.out.symm, hB.alloc hB.size _⟩
      · have hf := Lib.hid (HW.out.done (by omega))
        go_wp2
        go_ret
        exact ⟨ret_bool hf.out.symm, hB⟩
  · have hf := Lib.hid (worldOk_long h4)
    go_enter Tryz.func45, Tryz.ntmps45
    go_wp2
    go_ret
    exact ⟨ret_bool hf.out.symm, Below.refl _ _⟩
end Go.Proofs.YtilndhmegaccmaaGreatDoor

namespace Go.Proofs.YtilndhmegaccmaaGreatDoor
open Go.RowKit

set_option maxRecDepth 100000 in
set_option maxHeartbeats 1600000 in
theorem impl_typeOk (A : Option Addr) (n cap : Nat) (t : Ty) (w : World) (hn : n ≤ 9223372036854775807) : Calls Tryz.prog 46 #[.slice A n cap, .agg #[.int .i64 t.d, .int .i64 t.i]] w fun e w' => e = .returned (.bool (typeOkB n t)) ∧ Below w.heap.size w w' := by
  cases h0 : (t.d == -1) with
  | true =>
    cases h1 : (t.i == 0) with
    | true =>
      have hf : Hid (typeOkB n t = true) := by unfold Hid typeOkB; rw [if_pos (by simpa using h0), h1]
      go_enter Tryz.func46, Tryz.ntmps46
      go_wp2
      go_ret
      exact ⟨ret_bool hf.out.symm, (Below.refl _ _).alloc (Nat.le_refl _) _⟩
    | false =>
      have hf : Hid (typeOkB n t = false) := by unfold Hid typeOkB; rw [if_pos (by simpa using h0), h1]
      have hw : Hid (withinB t.d 0 ((n : Int) - 1) = false) := by
        have : t.d = -1 := by simpa using h0
        exact withinB_lo (by rw [this]; rfl)
      go_enter Tryz.func46, Tryz.ntmps46
      go_wp2_with fail
      refine (impl_within t.d 0 ((n : Int) - 1) _).mono ?_
      rintro e w' ⟨rfl, rfl⟩
      rw [hw.out]
      go_wp2
      go_ret
      exact ⟨ret_bool hf.out.symm, (Below.refl _ _).alloc (Nat.le_refl _) _⟩
  | false =>
    have hf0 : typeOkB n t = (withinB t.d 0 ((n : Int) - 1) && withinB t.i 0 3) := by unfold typeOkB; rw [if_neg (by simpa using h0)]
    cases hw : withinB t.d 0 ((n : Int) - 1) with
    | false =>
      have hf : Hid (typeOkB n t = false) := by rw [hf0, hw]; rfl
      have HW := Lib.hid hw
      clear hf0 hw
      go_enter Tryz.func46, Tryz.ntmps46
      go_wp2_with fail
      refine (impl_within t.d 0 ((n : Int) - 1) _).mono ?_
      rintro e w' ⟨rfl, rfl⟩
      rw [HW.out]
      go_wp2
      go_ret
      exact ⟨ret_bool hf.out.symm, (Below.refl _ _).alloc (Nat.le_refl _) _⟩
    | true =>
      have hf : Hid (typeOkB n t = withinB t.i 0 3) := by rw [hf0, hw]; rfl
      have HW := Lib.hid hw
      clear hf0 hw
      go_enter Tryz.func46, Tryz.ntmps46
      go_wp2_with fail
      refine (impl_within t.d 0 ((n : Int) - 1) _).mono ?_
      rintro e w' ⟨rfl, rfl⟩
      rw [HW.out]
      go_wp2_with fail
      refine (impl_within t.i 0 3 _).mono ?_
      rintro e w' ⟨rfl, rfl⟩
      generalize hbb : withinB t.i 0 3 = bb
      have HBB := Lib.hid hbb
      clear hbb
      go_wp2
      go_ret
      exact ⟨ret_bool (hf.out.trans HBB.out).symm, (Below.refl _ _).alloc (Nat.le_refl _) _⟩

set_option maxRecDepth 100000 in
set_option maxHeartbeats 1600000 in
theorem spec_l1Is (A : Option Addr) (n cap : Nat) (t : Ty) (w : World) : Calls Tryz.prog 39 #[.slice A n cap, .agg #[.int .i64 t.d, .int .i64 t.i]] w fun e w' => e = .returned (.bool (typeOkB n t)) ∧ Below w.heap.size w w' := by
  have h0 := typeOkB_arg n t
  go_enter Tryz.func39, Tryz.ntmps39
  go_wp2_with fail
  obtain ⟨W2, hW2⟩ : ∃ W2, W2 = w.alloc (.cells #[.int .i64 t.d, .int .i64 t.i] 33) := ⟨_, rfl⟩
  have hB2 : Below w.heap.size w W2 := by rw [hW2]; exact (Below.refl _ _).alloc (Nat.le_refl _) _
  have k1 : Blk W2 w.heap.size 33 #[.int .i64 t.d, .int .i64 t.i] := by rw [hW2]; exact Blk.new _ _ _
  rw [← hW2]
  clear hW2
  refine (spec_l1Arg n t W2).mono ?_
  rintro e w' ⟨rfl, hB'⟩
  have hB3 := hB2.trans (hB'.mono hB2.size)
  have k2 := k1.same (hB'.block _ k1.lt)
  have x1 : w'.cell? ⟨w.heap.size, 1, none⟩ = some (.int .i64 t.i) := (k2.cell 1).trans (by simp)
  have hlt := k2.lt
  clear k1 k2
  cases h1 : argOkB n t with
  | false =>
    rw [h1] at h0
    have hf := Lib.hid h0
    clear h0 h1
    go_wp2
    go_ret
    exact ⟨ret_bool hf.out, hB3⟩
  | true =>
    rw [h1, Bool.true_and] at h0
    have hf := Lib.hid h0
    clear h0 h1
    go_wp2
    go_ret
    exact ⟨ret_bool hf.out, hB3⟩

set_option maxRecDepth 100000 in
set_option maxHeartbeats 1600000 in
theorem spec_TypeValid (xs : List Dt) (t : Ty) (w : World) (v : Value) (F : List Nat) (hx : Arr w (DtR w) xs v F) (hf : Under w.heap.size F) :
    Calls Tryz.prog 24 #[v, .agg #[.int .i64 t.d, .int .i64 t.i]] w fun e w' => e = .returned (.bool (typeValidB xs t)) ∧ Below w.heap.size w w' := by
  obtain ⟨A, cap, rfl, hc1, hc2⟩ := hx.form
  have hn : xs.length ≤ 9223372036854775807 := by omega
  have HX := Lib.hid hx
  have HF := Lib.hid hf
  have HN := Lib.hid hn
  clear hx hf hn
  go_enter Tryz.func24, Tryz.ntmps24
  go_wp2_with fail
  obtain ⟨W2, hW2⟩ : ∃ W2, W2 = w.alloc (.cells #[.int .i64 t.d, .int .i64 t.i] 33) := ⟨_, rfl⟩
  have hB2 : Below w.heap.size w W2 := by rw [hW2]; exact (Below.refl _ _).alloc (Nat.le_refl _) _
  have k1 : Blk W2 w.heap.size 33 #[.int .i64 t.d, .int .i64 t.i] := by rw [hW2]; exact Blk.new _ _ _
  rw [← hW2]
  clear hW2
  refine (spec_WorldValid xs W2 _ F (ArrDt.below HX.out hB2 HF.out) (HF.out.mono hB2.size)).mono ?_
  rintro e w' ⟨rfl, hB'⟩
  have hB3 := hB2.trans (hB'.mono hB2.size)
  have k2 := k1.same (hB'.block _ k1.lt)
  have x0 : w'.cell? ⟨w.heap.size, 0, none⟩ = some (.int .i64 t.d) := (k2.cell 0).trans (by simp)
  have x1 : w'.cell? ⟨w.heap.size, 1, none⟩ = some (.int .i64 t.i) := (k2.cell 1).trans (by simp)
  have hlt := k2.lt
  clear k1 k2
  cases h1 : worldOk xs with
  | false =>
    have hf : Hid (typeValidB xs t = false) := by unfold Hid typeValidB; rw [h1]; rfl
    clear h1
    go_wp2
    go_ret
    exact ⟨ret_bool hf.out.symm, hB3⟩
  | true =>
    have hf : Hid (typeValidB xs t = typeOkB xs.length t) := by unfold Hid typeValidB; rw [h1]; rfl
    clear h1
    go_wp2_with fail
    refine (spec_l1Is _ xs.length cap t w').mono ?_
    rintro e w2 ⟨rfl, hB''⟩
    have hB4 := hB3.trans (hB''.mono hB3.size)
    generalize hbb : typeOkB (xs.length : Int) t = bb
    have HBB := Lib.hid hbb
    clear hbb
    go_wp2
    go_ret
    exact ⟨ret_bool (hf.out.trans HBB.out).symm, hB4⟩

set_option maxRecDepth 100000 in
set_option maxHeartbeats 1600000 in
theorem impl_TypeValid (xs : List Dt) (t : Ty) (w : World) (v : Value) (F : List Nat) (hx : Arr w (DtR w) xs v F) (hf : Under w.heap.size F) :
    Calls Tryz.prog 30 #[v, .agg #[.int .i64 t.d, .int .i64 t.i]] w fun e w' => e = .returned (.bool (typeValidB xs t)) ∧ Below w.heap.size w w' := by
  obtain ⟨A, cap, rfl, hc1, hc2⟩ := hx.form
  have hn : xs.length ≤ 9223372036854775807 := by omega
  have HX := Lib.hid hx
  have HF := Lib.hid hf
  have HN := Lib.hid hn
  clear hx hf hn
  go_enter Tryz.func30, Tryz.ntmps30
  go_wp2_with fail
  obtain ⟨W2, hW2⟩ : ∃ W2, W2 = w.alloc (.cells #[.int .i64 t.d, .int .i64 t.i] 33) := ⟨_, rfl⟩
  have hB2 : Below w.heap.size w W2 := by rw [hW2]; exact (Below.refl _ _).alloc (Nat.le_refl _) _
  have k1 : Blk W2 w.heap.size 33 #[.int .i64 t.d, .int .i64 t.i] := by rw [hW2]; exact Blk.new _ _ _
  rw [← hW2]
  clear hW2
  refine (impl_WorldValid xs W2 _ F (ArrDt.below HX.out hB2 HF.out) (HF.out.mono hB2.size)).mono ?_
  rintro e w' ⟨rfl, hB'⟩
  have hB3 := hB2.trans (hB'.mono hB2.size)
  have k2 := k1.same (hB'.block _ k1.lt)
  have x0 : w'.cell? ⟨w.heap.size, 0, none⟩ = some (.int .i64 t.d) := (k2.cell 0).trans (by simp)
  have x1 : w'.cell? ⟨w.heap.size, 1, none⟩ = some (.int .i64 t.i) := (k2.cell 1).trans (by simp)
  have hlt := k2.lt
  clear k1 k2
  cases h1 : worldOk xs with
  | false =>
    have hf : Hid (typeValidB xs t = false) := by unfold Hid typeValidB; rw [h1]; rfl
    clear h1
    go_wp2
    go_ret
    exact ⟨ret_bool hf.out.symm, hB3⟩
  | true =>
    have hf : Hid (typeValidB xs t = typeOkB xs.length t) := by unfold Hid typeValidB; rw [h1]; rfl
    clear h1
    go_wp2_with fail
    refine (impl_typeOk _ xs.length cap t w' HN.out).mono ?_
    rintro e w2 ⟨rfl, hB''⟩
    have hB4 := hB3.trans (hB''.mono hB3.size)
    generalize hbb : typeOkB (xs.length : Int) t = bb
    have HBB := Lib.hid hbb
    clear hbb
    go_wp2
    go_ret
    exact ⟨ret_bool (hf.out.trans HBB.out).symm, hB4⟩
end Go.Proofs.YtilndhmegaccmaaGreatDoor
