/-
  WorldValid of the reference. Conditions: none.
-/
import Derived.Test.YtddjhneoacnkgaaWorldL
import Derived.Deep.RegionWith
namespace Go.Proofs.Ytddjhneoacnkgaa
open Go.RowKit

set_option maxRecDepth 100000 in
set_option maxHeartbeats 1600000 in
theorem spec_WorldValid (xs : List Dt) (w : World) (v : Value) (F : List Nat) (hx : Arr w (DtR w) xs v F) (hf : Under w.heap.size F) :
    Calls Try.prog 16 #[v] w fun e w' => e = .returned (.bool (worldOk xs)) ∧ Below w.heap.size w w' := by
  obtain ⟨A, cap, rfl, hc1, hc2⟩ := hx.form
  have HX := Lib.hid hx
  have HF := Lib.hid hf
  clear hx hf
  by_cases h4 : xs.length ≤ 4
  · have H0 := Lib.hid (WInv.zero h4)
    go_enter Try.func16, Try.ntmps16
    go_wp2
    go_loopw [3] (fun iv wr => ∃ d : Nat, d ≤ xs.length ∧ iv = .int .i64 d ∧ Hid (WInv xs d) ∧ Below w.heap.size w wr) (fun iv _ => xs.length - (intOf iv).toNat)
    case atStart => exact ⟨0, Nat.zero_le _, rfl, H0, Below.refl _ _⟩
    case round =>
      obtain ⟨d, hd, rfl, HW, hB⟩ := hrel
      by_cases hlt : d < xs.length
      · obtain ⟨b, off, rfl⟩ := HX.out.ptr (by omega)
        obtain ⟨A1, cap1, G1, hb, c0, c1, HK, HG, hs, hn1, hn2⟩ := ArrDt.at HX.out HF.out hB d hlt
        have g1 : (0 : Int) ≤ (d : Int) := by omega
        have g2 : (d : Int) < (xs.length : Int) := by omega
        have HS := Lib.hid hs
        clear hs
        go_wp2_with fail
        refine (spec_l1Data xs[d].name wr (by unfold maxLen; exact HS.out)).mono ?_
        rintro e w1 ⟨rfl, rfl⟩
        cases e1 : dnameOk xs[d].name.data.toList with
        | false =>
          have hf := Lib.hid (HW.out.bad1 hlt e1)
          clear e1
          go_wp2
          go_ret
          exact ⟨ret_bool hf.out.symm, hB⟩
        | true =>
          have HE1 := Lib.hid e1
          clear e1
          by_cases hl0 : xs[d].ctors.length = 0
          · have t0 : ((xs[d].ctors.length : Int) == 0) = true := by simp [hl0]
            have hf := Lib.hid (HW.out.bad2 hlt (withinB_lo (by simp; omega)))
            clear hl0
            go_wp2
            go_ret
            exact ⟨ret_bool hf.out.symm, hB⟩
          · have t0 : ((xs[d].ctors.length : Int) == 0) = false := by simp; simpa using hl0
            by_cases hl5 : 4 < xs[d].ctors.length
            · have t1 : decide ((xs[d].ctors.length : Int) > 4) = true := by simp; omega
              have hf := Lib.hid (HW.out.bad2 hlt (by rw [withinB_hi (by simp; omega)]; simp; omega))
              clear hl0
              go_wp2
              go_ret
              exact ⟨ret_bool hf.out.symm, hB⟩
            · have t1 : decide ((xs[d].ctors.length : Int) > 4) = false := by simp; omega
              have HK0 := Lib.hid (HW.out.go hlt HE1.out ((withinB_iff _ _ _).2 ⟨by omega, by omega⟩))
              have hl1 : 0 < xs[d].ctors.length := by omega
              clear hl0
              go_wp2
              clear t0 t1 c0 c1
              obtain ⟨wo, hwo⟩ : ∃ wo : World, wo = wr := ⟨_, rfl⟩
              go_loopw [4] (fun jv ws => ∃ k : Nat, k ≤ xs[d].ctors.length ∧ jv = .int .i64 k ∧ Hid (KInv xs d hlt k) ∧ Below w.heap.size w ws) (fun jv _ => xs[d].ctors.length - (intOf jv).toNat)
              case atStart => exact ⟨0, Nat.zero_le _, rfl, HK0, hB⟩
              case round =>
                clear hwo
                obtain ⟨k, hk, rfl, HKI, hB2⟩ := hrel
                obtain ⟨A2, cap2, G2, hb2, c0, c1, HK2, HG2, -, hn3, hn4⟩ := ArrDt.at HX.out HF.out hB2 d hlt
                clear c0
                by_cases hkl : k < xs[d].ctors.length
                · obtain ⟨b2, off2, rfl⟩ := HK2.out.ptr (by omega)
                  obtain ⟨A3, cap3, G3, hb3, k0, k1, k2, HC, HG3, -, -, -⟩ := ArrKt.rep HK2.out HG2.out hB2 k hkl
                  have g3 : (0 : Int) ≤ (k : Int) := by omega
                  have g4 : (k : Int) < (xs[d].ctors.length : Int) := by omega
                  go_wp2_with fail
                  refine (spec_l1Ctor xs.length xs[d].ctors[k] _ _ _ (HC.out.below hB2 HG3.out) (HG3.out.mono hB2.size)).mono ?_
                  rintro e w2 ⟨rfl, hb2'⟩
                  have hB3 := hB2.trans (hb2'.mono hB2.size)
                  cases e2 : ctorOkB xs.length xs[d].ctors[k] with
                  | false =>
                    have hf := Lib.hid (HKI.out.bad1 hkl e2)
                    clear e2
                    go_wp2
                    go_ret
                    exact ⟨ret_bool hf.out.symm, hB3⟩
                  | true =>
                    have HE2 := Lib.hid e2
                    clear e2 k0 k1 k2 c1
                    go_wp2_with fail
                    refine (spec_l1Twice xs d k hlt hkl _ _ F (ArrDt.below HX.out hB3 HF.out) (HF.out.mono hB3.size)).mono ?_
                    rintro e w3 ⟨rfl, hb3'⟩
                    have hB4 := hB3.trans (hb3'.mono hB3.size)
                    cases e3 : twiceB (xs.take d) (xs[d].ctors.take k) xs[d].name xs[d].ctors[k].name with
                    | true =>
                      have hf := Lib.hid (HKI.out.bad2 hkl e3)
                      clear e3
                      go_wp2
                      go_ret
                      exact ⟨ret_bool hf.out.symm, hB4⟩
                    | false =>
                      have HK3 := Lib.hid (HKI.out.next hkl HE2.out e3)
                      clear e3
                      go_wp2
                      go_roundw
                      case rel => exact ⟨k + 1, by omega, by go_num, HK3, hB4⟩
                      case measure => (simp [intOf] <;> omega)
                · have HW2 := Lib.hid (HKI.out.done (by omega))
                  go_wp2
                  go_roundw
                  case rel => exact ⟨d + 1, by omega, by go_num, HW2, hB2⟩
                  case measure => (simp [intOf] <;> omega)
      · have hf := Lib.hid (HW.out.done (by omega))
        go_wp2
        go_ret
        exact ⟨ret_bool hf.out.symm, hB⟩
  · have hf := Lib.hid (worldOk_long h4)
    go_enter Try.func16, Try.ntmps16
    go_wp2
    go_ret
    exact ⟨ret_bool hf.out.symm, Below.refl _ _⟩
end Go.Proofs.Ytddjhneoacnkgaa
