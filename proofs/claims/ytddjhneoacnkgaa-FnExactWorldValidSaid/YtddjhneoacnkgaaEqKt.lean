/-
  Contract of eqCtorS at equal lists. Conditions: both stand for the same list.
-/
import Derived.Test.YtddjhneoacnkgaaEq1Kt
import Derived.Test.YtddjhneoacnkgaaChecked
import Derived.Deep.RegionHeld3
namespace Go.Proofs.Ytddjhneoacnkgaa
open Go.RowKit

set_option maxHeartbeats 800000 in
theorem eqCtorS_any (ks : List Kt) (w : World) (F F2 : List Nat) (x y : Value) (hx : Arr w (KtR w) ks x F) (hy : Arr w (KtR w) ks y F2) (hF : Under w.heap.size F) (hF2 : Under w.heap.size F2) :
    Calls Try.prog 77 #[x, y] w fun e w' => e = .returned (.bool true) ∧ Below w.heap.size w w' := by
  have HX := Lib.hid hx
  have HY := Lib.hid hy
  obtain ⟨A, cap, rfl, hl, hm⟩ := hx.form
  obtain ⟨A', cap', rfl, hl', hm'⟩ := hy.form
  clear hx hy
  have HF := Lib.hid hF
  have HF2 := Lib.hid hF2
  clear hF hF2
  go_enter Try.func77, Try.ntmps77
  go_wp2
  go_loopw [5] (fun i wr => ∃ k : Nat, k ≤ ks.length ∧ i = .int .i64 k ∧ Below w.heap.size w wr) (fun i _ => ks.length - (intOf i).toNat)
  case atStart => exact ⟨0, Nat.zero_le _, rfl, Below.refl _ _⟩
  case round =>
    obtain ⟨k, hk, rfl, hB⟩ := hrel
    have hBs := hB.size
    by_cases hlt : k < ks.length
    · obtain ⟨b, off, cs, G, rfl, hb, hcs, hvc, hG⟩ := HX.out.get KtR_len hlt
      have hbl := HF.out b hb
      have hGFc := HF.out.sub hG
      have hwc := hvc.below hB hGFc
      have hcsc := hcs.same (hB.block b hbl)
      obtain ⟨A1, cap1, rfl⟩ := KtR_form hvc
      have c0 := hcsc 0 _ rfl
      have c1 := hcsc 1 _ rfl
      have c2 := hcsc 2 _ rfl
      simp only [Nat.add_zero] at c0
      clear hcs hcsc hvc hG
      have HV := Lib.hid hwc
      clear hwc
      have HG := Lib.hid hGFc
      clear hGFc
      obtain ⟨b2, off2, ds, G2, rfl, hb2, hds, hvd, hG2⟩ := HY.out.get KtR_len hlt
      have hbl2 := HF2.out b2 hb2
      have hGFd := HF2.out.sub hG2
      have hwd := hvd.below hB hGFd
      have hcsd := hds.same (hB.block b2 hbl2)
      obtain ⟨A2, cap2, rfl⟩ := KtR_form hvd
      have d0 := hcsd 0 _ rfl
      have d1 := hcsd 1 _ rfl
      have d2 := hcsd 2 _ rfl
      simp only [Nat.add_zero] at d0
      clear hds hcsd hvd hG2
      have HV2 := Lib.hid hwd
      clear hwd
      have HG2 := Lib.hid hGFd
      clear hGFd
      go_wp2_with fail
      have hkeep : ∀ U U' : World, (U.cell? ⟨b, off + k * 3, none⟩ = some (.string ks[k].name) ∧ U.cell? ⟨b, off + k * 3 + 1, none⟩ = some (.slice A1 ks[k].args.length cap1) ∧ U.cell? ⟨b, off + k * 3 + 2, none⟩ = some (.int .i64 ks[k].idx) ∧ U.cell? ⟨b2, off2 + k * 3, none⟩ = some (.string ks[k].name) ∧ U.cell? ⟨b2, off2 + k * 3 + 1, none⟩ = some (.slice A2 ks[k].args.length cap2) ∧ U.cell? ⟨b2, off2 + k * 3 + 2, none⟩ = some (.int .i64 ks[k].idx)) → Below U.heap.size U U' → wr.heap.size ≤ U.heap.size → (U'.cell? ⟨b, off + k * 3, none⟩ = some (.string ks[k].name) ∧ U'.cell? ⟨b, off + k * 3 + 1, none⟩ = some (.slice A1 ks[k].args.length cap1) ∧ U'.cell? ⟨b, off + k * 3 + 2, none⟩ = some (.int .i64 ks[k].idx) ∧ U'.cell? ⟨b2, off2 + k * 3, none⟩ = some (.string ks[k].name) ∧ U'.cell? ⟨b2, off2 + k * 3 + 1, none⟩ = some (.slice A2 ks[k].args.length cap2) ∧ U'.cell? ⟨b2, off2 + k * 3 + 2, none⟩ = some (.int .i64 ks[k].idx)) := fun U U' h hb hU => ⟨(hb.cell (Nat.lt_of_lt_of_le (show b < wr.heap.size from by omega) hU)).trans h.1, (hb.cell (Nat.lt_of_lt_of_le (show b < wr.heap.size from by omega) hU)).trans h.2.1, (hb.cell (Nat.lt_of_lt_of_le (show b < wr.heap.size from by omega) hU)).trans h.2.2.1, (hb.cell (Nat.lt_of_lt_of_le (show b2 < wr.heap.size from by omega) hU)).trans h.2.2.2.1, (hb.cell (Nat.lt_of_lt_of_le (show b2 < wr.heap.size from by omega) hU)).trans h.2.2.2.2.1, (hb.cell (Nat.lt_of_lt_of_le (show b2 < wr.heap.size from by omega) hU)).trans h.2.2.2.2.2⟩
      have HKeep := Lib.hid hkeep
      clear hkeep
      go_region_held3 (fun w' => w'.cell? ⟨b, off + k * 3, none⟩ = some (.string ks[k].name) ∧ w'.cell? ⟨b, off + k * 3 + 1, none⟩ = some (.slice A1 ks[k].args.length cap1) ∧ w'.cell? ⟨b, off + k * 3 + 2, none⟩ = some (.int .i64 ks[k].idx) ∧ w'.cell? ⟨b2, off2 + k * 3, none⟩ = some (.string ks[k].name) ∧ w'.cell? ⟨b2, off2 + k * 3 + 1, none⟩ = some (.slice A2 ks[k].args.length cap2) ∧ w'.cell? ⟨b2, off2 + k * 3 + 2, none⟩ = some (.int .i64 ks[k].idx)) (first | assumption | (exact ⟨c0, c1, c2, d0, d1, d2⟩) | (exact HKeep.out wr.drew w' ⟨c0, c1, c2, d0, d1, d2⟩ hB' (Nat.le_refl _))) (first | (go_at_call 96; ((with_reducible refine (eqCtor_any ks[k] _ _ _ G G2 HV.out.drew HV2.out.drew (Under.drew (HG.out.mono hB.size)) (Under.drew (HG2.out.mono hB.size))).mono ?_); rintro e w' ⟨rfl, hB'⟩)))
      have hB3 := hB.drew.trans (hB'.mono hB.size)
      go_wp2
      go_roundw
      case rel => exact ⟨k + 1, by omega, by go_num, hB3⟩
      case measure => simp [intOf]; omega
    · go_wp2
      go_ret
      exact ⟨rfl, hB⟩
end Go.Proofs.Ytddjhneoacnkgaa
