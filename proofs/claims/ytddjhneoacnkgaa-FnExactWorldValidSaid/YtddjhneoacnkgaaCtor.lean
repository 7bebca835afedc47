/-
  l1Ctor of the reference: a constructor within the limits. Conditions: none.
-/
import Derived.Test.YtddjhneoacnkgaaKt
import Derived.Test.YtddjhneoacnkgaaArg
import Derived.Test.YtddjhneoacnkgaaName
import Derived.Deep.RegionWith
import Derived.Deep.RegionHeld3
namespace Go.Proofs.Ytddjhneoacnkgaa
open Go.RowKit

/-- a constructor in a world of n data types -/
def ctorOkB (n : Int) (c : Kt) : Bool := nameOk c.name.data.toList && (decide ((c.args.length : Int) ≤ 3) && (withinB c.idx 0 3 && c.args.all (argOkB n)))
theorem all_drop {α : Type} (p : α → Bool) (l : List α) (k : Nat) (h : k < l.length) : (l.drop k).all p = (p l[k] && (l.drop (k + 1)).all p) := by
  rw [List.drop_eq_getElem_cons h]; rfl

set_option maxRecDepth 100000 in
set_option maxHeartbeats 1600000 in
theorem spec_l1Ctor (n : Int) (c : Kt) (w : World) (cs : List Value) (F : List Nat) (hv : KtR w c cs F) (hF : Under w.heap.size F) :
    Calls Try.prog 51 #[.int .i64 n, .agg cs.toArray] w fun e w' => e = .returned (.bool (ctorOkB n c)) ∧ Below w.heap.size w w' := by
  obtain ⟨kv, rfl, ha, hs⟩ := hv
  have HX := Lib.hid ha
  obtain ⟨A, cap, rfl, hc1, hc2⟩ := ha.form
  clear ha
  have HF := Lib.hid hF
  have HS := Lib.hid hs
  clear hF hs
  go_enter Try.func51, Try.ntmps51
  go_wp2_with fail
  obtain ⟨W2, hW2⟩ : ∃ W2, W2 = w.alloc (.cells #[.string c.name, .slice A c.args.length cap, .int .i64 c.idx] 68) := ⟨_, rfl⟩
  have hB2 : Below w.heap.size w W2 := by rw [hW2]; exact (Below.refl _ _).alloc (Nat.le_refl _) _
  have k1 : Blk W2 w.heap.size 68 #[.string c.name, .slice A c.args.length cap, .int .i64 c.idx] := by rw [hW2]; exact Blk.new _ _ _
  rw [← hW2]
  clear hW2
  have x1 : W2.cell? ⟨w.heap.size, 1, none⟩ = some (.slice A c.args.length cap) := (k1.cell 1).trans (by simp)
  have x2 : W2.cell? ⟨w.heap.size, 2, none⟩ = some (.int .i64 c.idx) := (k1.cell 2).trans (by simp)
  have hlt0 := k1.lt
  have K1 := Lib.hid k1
  clear k1
  refine (spec_NameValid c.name W2 (by have := HS.out; unfold maxLen; omega)).mono ?_
  rintro e w' ⟨rfl, rfl⟩
  cases hn : nameOk c.name.data.toList with
  | false =>
    have hf : Hid (ctorOkB n c = false) := by unfold Hid ctorOkB; rw [hn]; rfl
    clear hn
    go_wp2
    go_ret
    exact ⟨ret_bool hf.out.symm, hB2⟩
  | true =>
    have h0 : ctorOkB n c = (decide ((c.args.length : Int) ≤ 3) && (withinB c.idx 0 3 && c.args.all (argOkB n))) := by unfold ctorOkB; rw [hn, Bool.true_and]
    clear hn
    by_cases hl : (c.args.length : Int) ≤ 3
    · have t1 : decide ((c.args.length : Int) > 3) = false := by simp; omega
      have h1 : ctorOkB n c = (withinB c.idx 0 3 && c.args.all (argOkB n)) := by rw [h0, decide_eq_true hl, Bool.true_and]
      clear h0 hl
      by_cases hi : c.idx < 0
      · have t2 : decide (c.idx < 0) = true := by simpa using hi
        have hf : Hid (ctorOkB n c = false) := by rw [h1, withinB_lo (by simp; omega)]; rfl
        clear h1 hi
        go_wp2
        go_ret
        exact ⟨ret_bool hf.out.symm, hB2⟩
      · have t2 : decide (c.idx < 0) = false := by simpa using hi
        by_cases hj : c.idx > 3
        · have t3 : decide (c.idx > 3) = true := by simpa using hj
          have hf : Hid (ctorOkB n c = false) := by rw [h1, withinB_hi (by simp; omega), show decide (c.idx ≤ 3) = false from by simp; omega]; rfl
          clear h1 hi hj
          go_wp2
          go_ret
          exact ⟨ret_bool hf.out.symm, hB2⟩
        · have t3 : decide (c.idx > 3) = false := by simpa using hj
          have h2 : ctorOkB n c = c.args.all (argOkB n) := by rw [h1, (withinB_iff _ _ _).2 ⟨by omega, by omega⟩, Bool.true_and]
          have HOk := Lib.hid h2
          clear h1 hi hj h2
          go_wp2
          go_loopw [5] (fun i wr => ∃ k : Nat, k ≤ c.args.length ∧ i = .int .i64 k ∧ Hid (c.args.all (argOkB n) = (c.args.drop k).all (argOkB n)) ∧ Below w.heap.size w wr ∧ Hid (Blk wr w.heap.size 68 #[.string c.name, .slice A c.args.length cap, .int .i64 c.idx])) (fun i _ => c.args.length - (intOf i).toNat)
          case atStart => exact ⟨0, Nat.zero_le _, rfl, rfl, hB2, K1⟩
          case round =>
            obtain ⟨k, hk, rfl, HT, hB, KB⟩ := hrel
            clear x1 x2 hlt0
            have x1 : wr.cell? ⟨w.heap.size, 1, none⟩ = some (.slice A c.args.length cap) := (KB.out.cell 1).trans (by simp)
            have hlt0 := KB.out.lt
            by_cases hlt : k < c.args.length
            · have hi0 : (0 : Int) ≤ (k : Int) := by omega
              have hi1 : (k : Int) < (c.args.length : Int) := by omega
              obtain ⟨b, off, cs, G, rfl, hb, hcs, hv, -⟩ := HX.out.get TyR_len hlt
              have hbl := HF.out b hb
              have hcs := hcs.same (hB.block b hbl)
              obtain rfl := TyR_form hv
              have c0 := hcs 0 _ rfl
              have c1 := hcs 1 _ rfl
              simp only [Nat.add_zero] at c0
              clear hcs hv hb
              have hbw := Nat.lt_of_lt_of_le hbl hB.size
              have hd := all_drop (argOkB n) c.args k hlt
              go_wp2_with fail
              refine (spec_l1Arg n c.args[k] wr).mono ?_
              rintro e w' ⟨rfl, hB'⟩
              have hB3 := hB.trans (hB'.mono hB.size)
              have KB3 : Hid (Blk w' w.heap.size 68 #[.string c.name, .slice (some ⟨b, off, none⟩) c.args.length cap, .int .i64 c.idx]) := KB.out.same (hB'.block _ KB.out.lt)
              cases hq : argOkB n c.args[k] with
              | false =>
                have hf : Hid (ctorOkB n c = false) := by rw [hq, Bool.false_and] at hd; exact HOk.out.trans (HT.out.trans hd)
                clear hq hd
                go_wp2
                go_ret
                exact ⟨ret_bool hf.out.symm, hB3⟩
              | true =>
                have hT2 : Hid (c.args.all (argOkB n) = (c.args.drop (k + 1)).all (argOkB n)) := by rw [hq, Bool.true_and] at hd; exact HT.out.trans hd
                clear hq hd
                go_wp2
                go_roundw
                case rel => exact ⟨k + 1, by omega, by go_num, hT2, hB3, KB3⟩
                case measure => simp [intOf]; omega
            · have hT := HT.out
              rw [List.drop_of_length_le (by omega)] at hT
              have hf : Hid (ctorOkB n c = true) := HOk.out.trans hT
              clear hT
              go_wp2
              go_ret
              exact ⟨ret_bool hf.out.symm, hB⟩
    · have t1 : decide ((c.args.length : Int) > 3) = true := by simp; omega
      have hf : Hid (ctorOkB n c = false) := by rw [h0, decide_eq_false hl]; rfl
      clear h0 hl
      go_wp2
      go_ret
      exact ⟨ret_bool hf.out.symm, hB2⟩
end Go.Proofs.Ytddjhneoacnkgaa
