/-
  Contract of szCtorS. Conditions: the bound is between 0 and 1048576.
-/
import Derived.Test.YtddjhneoacnkgaaSz1Kt
import Derived.Test.YtddjhneoacnkgaaChecked
import Derived.Deep.RegionHeld3
namespace Go.Proofs.Ytddjhneoacnkgaa
open Go.RowKit

set_option maxHeartbeats 400000 in
theorem szCtorS_any (ks : List Kt) (w : World) (F : List Nat) (x : Value) (left : Int) (hx : Arr w (KtR w) ks x F) (hF : Under w.heap.size F) (h0 : 0 ≤ left) (h1 : left ≤ 1048576) :
    Calls Try.prog 75 #[x, .int .i64 left] w fun e w' => e = .returned (.int .i64 (szLeft (Kt.sizes ks) left)) ∧ Below w.heap.size w w' := by
  have HX := Lib.hid hx
  obtain ⟨A, cap, rfl, hl, hm⟩ := hx.form
  clear hx
  have HF := Lib.hid hF
  clear hF
  by_cases hneg : left - (ks.length : Int) < 0
  · have hf : Hid (szLeft (Kt.sizes ks) left = -1) := by
      unfold szLeft Kt.sizes; exact if_neg (by omega)
    go_enter Try.func75, Try.ntmps75
    go_wp2
    go_ret
    exact ⟨ret_int hf.out.symm, Below.refl _ _⟩
  · have hpos : 0 ≤ left - (ks.length : Int) := by omega
    clear hneg
    go_enter Try.func75, Try.ntmps75
    go_wp2
    go_loopw [1, 5] (fun l i wr => ∃ k : Nat, ∃ m : Int, k ≤ ks.length ∧ i = .int .i64 k ∧ l = .int .i64 m ∧ 0 ≤ m ∧ m ≤ 1048576 ∧ Hid (m = left - ks.length - sumBy Kt.size (ks.take k)) ∧ Below w.heap.size w wr) (fun _ i _ => ks.length - (intOf i).toNat)
    case atStart => exact ⟨0, _, Nat.zero_le _, rfl, rfl, hpos, by omega, by simp [Hid, sumBy], Below.refl _ _⟩
    case round =>
      obtain ⟨k, m, hk, rfl, rfl, hm0, hm1, HM, hB⟩ := hrel
      by_cases hlt : k < ks.length
      · obtain ⟨b, off, cs, G, rfl, hb, hcs, hvc, hG⟩ := HX.out.get KtR_len hlt
        have hbl := HF.out b hb
        have hGFc := HF.out.sub hG
        have hwc := hvc.below hB hGFc
        have hcsc := hcs.same (hB.block b hbl)
        obtain ⟨A1, cap1, rfl⟩ := KtR_form hvc
        have c0 := hcsc 0 _ rfl
        have c1 := hcsc 1 _ rfl
        have c2 := hcsc 2 _ rfl
        simp only [Nat.add_zero] at c0
        clear hcs hcsc hvc hG
        have HV := Lib.hid hwc
        clear hwc
        have HG := Lib.hid hGFc
        clear hGFc
        go_wp2_with fail
        refine (szCtor_any ks[k] _ _ G m HV.out (HG.out.mono hB.size) hm0 hm1).mono ?_
        rintro e w' ⟨rfl, hB'⟩
        have hB2 := hB.trans (hB'.mono hB.size)
        by_cases hle : (ks[k].size : Int) ≤ m
        · have e1 : szLeft ks[k].size m = m - ks[k].size := if_pos hle
          rw [e1]
          have hs : Hid (m - ks[k].size = left - ks.length - sumBy Kt.size (ks.take (k + 1))) := by
            have := HM.out; rw [sumBy_take_succ _ ks k hlt]; unfold Hid; omega
          have hnn : 0 ≤ m - (ks[k].size : Int) := by omega
          have hn1 : m - (ks[k].size : Int) ≤ 1048576 := by omega
          clear e1
          generalize m - (ks[k].size : Int) = m' at *
          go_wp2
          go_roundw
          case rel => exact ⟨k + 1, m', by omega, by go_num, rfl, hnn, hn1, hs, hB2⟩
          case measure => simp [intOf]; omega
        · have e1 : szLeft ks[k].size m = -1 := if_neg hle
          rw [e1]
          have hf : Hid (szLeft (Kt.sizes ks) left = -1) := by
            unfold szLeft Kt.sizes
            have := HM.out
            have h2 := sumBy_take_le Kt.size ks (k + 1)
            rw [sumBy_take_succ _ ks k hlt] at h2
            exact if_neg (by omega)
          go_wp2
          go_ret
          exact ⟨ret_int hf.out.symm, hB2⟩
      · have hf : Hid (szLeft (Kt.sizes ks) left = m) := by
          have := HM.out
          rw [List.take_of_length_le (by omega)] at this
          unfold szLeft Kt.sizes Hid
          rw [if_pos (by omega)]; omega
        go_wp2
        go_ret
        exact ⟨ret_int hf.out.symm, hB⟩
end Go.Proofs.Ytddjhneoacnkgaa
