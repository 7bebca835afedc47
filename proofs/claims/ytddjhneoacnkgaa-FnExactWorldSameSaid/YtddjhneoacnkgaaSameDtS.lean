/-
  WorldSame of the reference: equality of worlds, by two loops. Conditions: none.
-/
import Derived.Test.YtddjhneoacnkgaaSameDt
import Derived.Deep.RegionHeld3
import Derived.BigQuiet
import Derived.Deep.QuietTactic
namespace Go.Proofs.Ytddjhneoacnkgaa
open Go.RowKit

set_option maxRecDepth 100000 in
set_option maxHeartbeats 3200000 in
theorem spec_WorldSame (xs ys : List Dt) (w : World) (x y : Value) (F G : List Nat) (hx : Arr w (DtR w) xs x F) (hy : Arr w (DtR w) ys y G) (hF : Under w.heap.size F) (hG : Under w.heap.size G) :
    Calls Try.prog 12 #[x, y] w fun e w' => e = .returned (.bool (sameBy Dt.same xs ys)) ∧ Below w.heap.size w w' := by
  have HX := Lib.hid hx
  have HY := Lib.hid hy
  obtain ⟨A, cap, rfl, hc1, hc2⟩ := hx.form
  obtain ⟨A', cap', rfl, hc3, hc4⟩ := hy.form
  clear hx hy
  have HF := Lib.hid hF
  have HG := Lib.hid hG
  clear hF hG
  by_cases hl : xs.length = ys.length
  · have tl : ((xs.length : Int) != (ys.length : Int)) = false := by rw [hl]; simp
    have hle1 : xs.length ≤ ys.length := by omega
    have hle2 : ys.length ≤ xs.length := by omega
    clear hl
    go_enter Try.func12, Try.ntmps12
    go_wp2
    go_loopw [5] (fun i wr => ∃ k : Nat, k ≤ xs.length ∧ i = .int .i64 k ∧ Hid (sameBy Dt.same xs ys = sameBy Dt.same (xs.drop k) (ys.drop k)) ∧ Below w.heap.size w wr) (fun i _ => xs.length - (intOf i).toNat)
    case atStart => exact ⟨0, Nat.zero_le _, rfl, rfl, Below.refl _ _⟩
    case round =>
      obtain ⟨k, hk, rfl, HT, hBo⟩ := hrel
      obtain ⟨wo, rfl⟩ : ∃ wo : World, wo = wr := ⟨_, rfl⟩
      have HBo := Lib.hid hBo
      by_cases hlt : k < xs.length
      · have hlt' : k < ys.length := by omega
        have hi0 : (0 : Int) ≤ (k : Int) := by omega
        have hi1 : (k : Int) < (xs.length : Int) := by omega
        have hi2 : (k : Int) < (ys.length : Int) := by omega
        have hd := sameBy_drop (f := Dt.same) xs ys k hlt hlt'
        have HD := Lib.hid hd
        clear hd
        obtain ⟨b, off, cs, G1, rfl, hb, hcs, hv, hG1⟩ := HX.out.get DtR_len hlt
        obtain ⟨b2, off2, ds, G2, rfl, hb2, hds, hv2, hG2⟩ := HY.out.get DtR_len hlt'
        have hbl := HF.out b hb
        have hbl2 := HG.out b2 hb2
        have hGF1 := HF.out.sub hG1
        have hGF2 := HG.out.sub hG2
        obtain ⟨kv, rfl, ha, -⟩ := hv
        obtain ⟨kv2, rfl, ha2, -⟩ := hv2
        have HA := Lib.hid ha
        have HA2 := Lib.hid ha2
        obtain ⟨A1, cap1, rfl, hm1, hm2⟩ := ha.form
        obtain ⟨A2, cap2, rfl, hm3, hm4⟩ := ha2.form
        have HCS := Lib.hid hcs
        have HDS := Lib.hid hds
        have HGF1 := Lib.hid hGF1
        have HGF2 := Lib.hid hGF2
        have hcs1 := hcs.same (hBo.block b hbl)
        have hds1 := hds.same (hBo.block b2 hbl2)
        have c0 := hcs1 0 _ rfl
        have c1 := hcs1 1 _ rfl
        have d0 := hds1 0 _ rfl
        have d1 := hds1 1 _ rfl
        simp only [Nat.add_zero] at c0 d0
        clear hcs hds hcs1 hds1 ha ha2 hG1 hG2 hGF1 hGF2 hb hb2 hBo
        have HBq := Lib.hid (fun n => below_drewN HBo.out n)
        cases e0 : (xs[k].name.toList == ys[k].name.toList) with
        | false =>
          have hf : Hid (sameBy Dt.same xs ys = false) := by have hd := HD.out; unfold Dt.same at hd; rw [e0, Bool.false_and, Bool.false_and] at hd; exact HT.out.trans hd
          go_wp2_with fail
          go_quiet (fail)
          go_wp2
          go_ret
          exact ⟨ret_bool hf.out.symm, HBq.out _⟩
        | true =>
          have hs : Dt.same xs[k] ys[k] = sameBy Kt.same xs[k].ctors ys[k].ctors := by unfold Dt.same; rw [e0, Bool.true_and]
          have HSm := Lib.hid hs
          clear hs
          by_cases hlc : xs[k].ctors.length = ys[k].ctors.length
          · have tc : ((xs[k].ctors.length : Int) != (ys[k].ctors.length : Int)) = false := by rw [hlc]; simp
            have hq1 : xs[k].ctors.length ≤ ys[k].ctors.length := by omega
            have hq2 : ys[k].ctors.length ≤ xs[k].ctors.length := by omega
            clear hlc
            go_wp2_with fail
            go_quiet (fail)
            go_wp2
            go_loopw [6] (fun i wr => ∃ m : Nat, m ≤ xs[k].ctors.length ∧ i = .int .i64 m ∧ Hid (sameBy Kt.same xs[k].ctors ys[k].ctors = sameBy Kt.same (xs[k].ctors.drop m) (ys[k].ctors.drop m)) ∧ Below w.heap.size w wr) (fun i _ => xs[k].ctors.length - (intOf i).toNat)
            case atStart => exact ⟨0, Nat.zero_le _, rfl, rfl, HBq.out _⟩
            case round =>
              obtain ⟨m, hm, rfl, HT3, hB⟩ := hrel
              have hBs := hB.size
              have hcs1 := HCS.out.same (hB.block b hbl)
              have hds1 := HDS.out.same (hB.block b2 hbl2)
              clear c0 c1 d0 d1
              have c1 := hcs1 1 _ rfl
              have d1 := hds1 1 _ rfl
              clear hcs1 hds1
              by_cases hlm : m < xs[k].ctors.length
              · have hlm' : m < ys[k].ctors.length := by omega
                have hj0 : (0 : Int) ≤ (m : Int) := by omega
                have hj1 : (m : Int) < (xs[k].ctors.length : Int) := by omega
                have hj2 : (m : Int) < (ys[k].ctors.length : Int) := by omega
                have HD3 := Lib.hid (sameBy_drop (f := Kt.same) xs[k].ctors ys[k].ctors m hlm hlm')
                obtain ⟨b3, off3, es, G3, rfl, hb3, hes, hve, hG3⟩ := HA.out.get KtR_len hlm
                have hbl3 := HGF1.out b3 hb3
                have hGFe := HGF1.out.sub hG3
                have hwe := hve.below hB hGFe
                have hcse := hes.same (hB.block b3 hbl3)
                obtain ⟨A3, cap3, rfl⟩ := KtR_form hve
                have e0 := hcse 0 _ rfl
                have e1 := hcse 1 _ rfl
                have e2 := hcse 2 _ rfl
                simp only [Nat.add_zero] at e0
                clear hes hcse hve hG3
                have HV3 := Lib.hid hwe
                clear hwe
                have HG3 := Lib.hid hGFe
                clear hGFe
                obtain ⟨b4, off4, fs, G4, rfl, hb4, hfs, hvf, hG4⟩ := HA2.out.get KtR_len hlm'
                have hbl4 := HGF2.out b4 hb4
                have hGFf := HGF2.out.sub hG4
                have hwf := hvf.below hB hGFf
                have hcsf := hfs.same (hB.block b4 hbl4)
                obtain ⟨A4, cap4, rfl⟩ := KtR_form hvf
                have f0 := hcsf 0 _ rfl
                have f1 := hcsf 1 _ rfl
                have f2 := hcsf 2 _ rfl
                simp only [Nat.add_zero] at f0
                clear hfs hcsf hvf hG4
                have HV4 := Lib.hid hwf
                clear hwf
                have HG4 := Lib.hid hGFf
                clear hGFf
                cases hs : Kt.same xs[k].ctors[m] ys[k].ctors[m] with
                | true =>
                  have hT4 : Hid (sameBy Kt.same xs[k].ctors ys[k].ctors = sameBy Kt.same (xs[k].ctors.drop (m + 1)) (ys[k].ctors.drop (m + 1))) := by have hd := HD3.out; rw [hs, Bool.true_and] at hd; exact HT3.out.trans hd
                  have HS := Lib.hid hs
                  clear hs
                  go_wp2_with fail
                  have hkeep : ∀ U U' : World, (U.cell? ⟨b, off + k * 2 + 1, none⟩ = some (.slice (some ⟨b3, off3, none⟩) xs[k].ctors.length cap1) ∧ U.cell? ⟨b2, off2 + k * 2 + 1, none⟩ = some (.slice (some ⟨b4, off4, none⟩) ys[k].ctors.length cap2) ∧ U.cell? ⟨b3, off3 + m * 3, none⟩ = some (.string xs[k].ctors[m].name) ∧ U.cell? ⟨b3, off3 + m * 3 + 1, none⟩ = some (.slice A3 xs[k].ctors[m].args.length cap3) ∧ U.cell? ⟨b3, off3 + m * 3 + 2, none⟩ = some (.int .i64 xs[k].ctors[m].idx) ∧ U.cell? ⟨b4, off4 + m * 3, none⟩ = some (.string ys[k].ctors[m].name) ∧ U.cell? ⟨b4, off4 + m * 3 + 1, none⟩ = some (.slice A4 ys[k].ctors[m].args.length cap4) ∧ U.cell? ⟨b4, off4 + m * 3 + 2, none⟩ = some (.int .i64 ys[k].ctors[m].idx)) → Below U.heap.size U U' → wr.heap.size ≤ U.heap.size → (U'.cell? ⟨b, off + k * 2 + 1, none⟩ = some (.slice (some ⟨b3, off3, none⟩) xs[k].ctors.length cap1) ∧ U'.cell? ⟨b2, off2 + k * 2 + 1, none⟩ = some (.slice (some ⟨b4, off4, none⟩) ys[k].ctors.length cap2) ∧ U'.cell? ⟨b3, off3 + m * 3, none⟩ = some (.string xs[k].ctors[m].name) ∧ U'.cell? ⟨b3, off3 + m * 3 + 1, none⟩ = some (.slice A3 xs[k].ctors[m].args.length cap3) ∧ U'.cell? ⟨b3, off3 + m * 3 + 2, none⟩ = some (.int .i64 xs[k].ctors[m].idx) ∧ U'.cell? ⟨b4, off4 + m * 3, none⟩ = some (.string ys[k].ctors[m].name) ∧ U'.cell? ⟨b4, off4 + m * 3 + 1, none⟩ = some (.slice A4 ys[k].ctors[m].args.length cap4) ∧ U'.cell? ⟨b4, off4 + m * 3 + 2, none⟩ = some (.int .i64 ys[k].ctors[m].idx)) := fun U U' h hb hU => ⟨(hb.cell (Nat.lt_of_lt_of_le (show b < wr.heap.size from by omega) hU)).trans h.1, (hb.cell (Nat.lt_of_lt_of_le (show b2 < wr.heap.size from by omega) hU)).trans h.2.1, (hb.cell (Nat.lt_of_lt_of_le (show b3 < wr.heap.size from by omega) hU)).trans h.2.2.1, (hb.cell (Nat.lt_of_lt_of_le (show b3 < wr.heap.size from by omega) hU)).trans h.2.2.2.1, (hb.cell (Nat.lt_of_lt_of_le (show b3 < wr.heap.size from by omega) hU)).trans h.2.2.2.2.1, (hb.cell (Nat.lt_of_lt_of_le (show b4 < wr.heap.size from by omega) hU)).trans h.2.2.2.2.2.1, (hb.cell (Nat.lt_of_lt_of_le (show b4 < wr.heap.size from by omega) hU)).trans h.2.2.2.2.2.2.1, (hb.cell (Nat.lt_of_lt_of_le (show b4 < wr.heap.size from by omega) hU)).trans h.2.2.2.2.2.2.2⟩
                  have HKeep := Lib.hid hkeep
                  clear hkeep
                  go_region_held3 (fun w' => w'.cell? ⟨b, off + k * 2 + 1, none⟩ = some (.slice (some ⟨b3, off3, none⟩) xs[k].ctors.length cap1) ∧ w'.cell? ⟨b2, off2 + k * 2 + 1, none⟩ = some (.slice (some ⟨b4, off4, none⟩) ys[k].ctors.length cap2) ∧ w'.cell? ⟨b3, off3 + m * 3, none⟩ = some (.string xs[k].ctors[m].name) ∧ w'.cell? ⟨b3, off3 + m * 3 + 1, none⟩ = some (.slice A3 xs[k].ctors[m].args.length cap3) ∧ w'.cell? ⟨b3, off3 + m * 3 + 2, none⟩ = some (.int .i64 xs[k].ctors[m].idx) ∧ w'.cell? ⟨b4, off4 + m * 3, none⟩ = some (.string ys[k].ctors[m].name) ∧ w'.cell? ⟨b4, off4 + m * 3 + 1, none⟩ = some (.slice A4 ys[k].ctors[m].args.length cap4) ∧ w'.cell? ⟨b4, off4 + m * 3 + 2, none⟩ = some (.int .i64 ys[k].ctors[m].idx)) (first | assumption | (exact ⟨c1, d1, e0, e1, e2, f0, f1, f2⟩) | (exact HKeep.out wr.drew w' ⟨c1, d1, e0, e1, e2, f0, f1, f2⟩ hB' (Nat.le_refl _))) (first | (go_at_call 42; ((with_reducible refine (spec_l1SameCtor xs[k].ctors[m] ys[k].ctors[m] _ _ _ G3 G4 HV3.out.drew HV4.out.drew (Under.drew (HG3.out.mono hB.size)) (Under.drew (HG4.out.mono hB.size))).mono ?_); rintro e w' ⟨rfl, hB'⟩; rw [HS.out])))
                  have hB3 := hB.drew.trans (hB'.mono hB.size)
                  go_wp2
                  go_roundw
                  case rel => exact ⟨m + 1, by omega, by go_num, hT4, hB3⟩
                  case measure => simp [intOf]; omega
                | false =>
                  have hf : Hid (sameBy Dt.same xs ys = false) := by
                    have hd := HD3.out
                    rw [hs, Bool.false_and] at hd
                    have hd2 := HD.out
                    rw [HSm.out, HT3.out, hd, Bool.false_and] at hd2
                    exact HT.out.trans hd2
                  have HS := Lib.hid hs
                  clear hs
                  go_wp2_with fail
                  have hkeep : ∀ U U' : World, (U.cell? ⟨b, off + k * 2 + 1, none⟩ = some (.slice (some ⟨b3, off3, none⟩) xs[k].ctors.length cap1) ∧ U.cell? ⟨b2, off2 + k * 2 + 1, none⟩ = some (.slice (some ⟨b4, off4, none⟩) ys[k].ctors.length cap2) ∧ U.cell? ⟨b3, off3 + m * 3, none⟩ = some (.string xs[k].ctors[m].name) ∧ U.cell? ⟨b3, off3 + m * 3 + 1, none⟩ = some (.slice A3 xs[k].ctors[m].args.length cap3) ∧ U.cell? ⟨b3, off3 + m * 3 + 2, none⟩ = some (.int .i64 xs[k].ctors[m].idx) ∧ U.cell? ⟨b4, off4 + m * 3, none⟩ = some (.string ys[k].ctors[m].name) ∧ U.cell? ⟨b4, off4 + m * 3 + 1, none⟩ = some (.slice A4 ys[k].ctors[m].args.length cap4) ∧ U.cell? ⟨b4, off4 + m * 3 + 2, none⟩ = some (.int .i64 ys[k].ctors[m].idx)) → Below U.heap.size U U' → wr.heap.size ≤ U.heap.size → (U'.cell? ⟨b, off + k * 2 + 1, none⟩ = some (.slice (some ⟨b3, off3, none⟩) xs[k].ctors.length cap1) ∧ U'.cell? ⟨b2, off2 + k * 2 + 1, none⟩ = some (.slice (some ⟨b4, off4, none⟩) ys[k].ctors.length cap2) ∧ U'.cell? ⟨b3, off3 + m * 3, none⟩ = some (.string xs[k].ctors[m].name) ∧ U'.cell? ⟨b3, off3 + m * 3 + 1, none⟩ = some (.slice A3 xs[k].ctors[m].args.length cap3) ∧ U'.cell? ⟨b3, off3 + m * 3 + 2, none⟩ = some (.int .i64 xs[k].ctors[m].idx) ∧ U'.cell? ⟨b4, off4 + m * 3, none⟩ = some (.string ys[k].ctors[m].name) ∧ U'.cell? ⟨b4, off4 + m * 3 + 1, none⟩ = some (.slice A4 ys[k].ctors[m].args.length cap4) ∧ U'.cell? ⟨b4, off4 + m * 3 + 2, none⟩ = some (.int .i64 ys[k].ctors[m].idx)) := fun U U' h hb hU => ⟨(hb.cell (Nat.lt_of_lt_of_le (show b < wr.heap.size from by omega) hU)).trans h.1, (hb.cell (Nat.lt_of_lt_of_le (show b2 < wr.heap.size from by omega) hU)).trans h.2.1, (hb.cell (Nat.lt_of_lt_of_le (show b3 < wr.heap.size from by omega) hU)).trans h.2.2.1, (hb.cell (Nat.lt_of_lt_of_le (show b3 < wr.heap.size from by omega) hU)).trans h.2.2.2.1, (hb.cell (Nat.lt_of_lt_of_le (show b3 < wr.heap.size from by omega) hU)).trans h.2.2.2.2.1, (hb.cell (Nat.lt_of_lt_of_le (show b4 < wr.heap.size from by omega) hU)).trans h.2.2.2.2.2.1, (hb.cell (Nat.lt_of_lt_of_le (show b4 < wr.heap.size from by omega) hU)).trans h.2.2.2.2.2.2.1, (hb.cell (Nat.lt_of_lt_of_le (show b4 < wr.heap.size from by omega) hU)).trans h.2.2.2.2.2.2.2⟩
                  have HKeep := Lib.hid hkeep
                  clear hkeep
                  go_region_held3 (fun w' => w'.cell? ⟨b, off + k * 2 + 1, none⟩ = some (.slice (some ⟨b3, off3, none⟩) xs[k].ctors.length cap1) ∧ w'.cell? ⟨b2, off2 + k * 2 + 1, none⟩ = some (.slice (some ⟨b4, off4, none⟩) ys[k].ctors.length cap2) ∧ w'.cell? ⟨b3, off3 + m * 3, none⟩ = some (.string xs[k].ctors[m].name) ∧ w'.cell? ⟨b3, off3 + m * 3 + 1, none⟩ = some (.slice A3 xs[k].ctors[m].args.length cap3) ∧ w'.cell? ⟨b3, off3 + m * 3 + 2, none⟩ = some (.int .i64 xs[k].ctors[m].idx) ∧ w'.cell? ⟨b4, off4 + m * 3, none⟩ = some (.string ys[k].ctors[m].name) ∧ w'.cell? ⟨b4, off4 + m * 3 + 1, none⟩ = some (.slice A4 ys[k].ctors[m].args.length cap4) ∧ w'.cell? ⟨b4, off4 + m * 3 + 2, none⟩ = some (.int .i64 ys[k].ctors[m].idx)) (first | assumption | (exact ⟨c1, d1, e0, e1, e2, f0, f1, f2⟩) | (exact HKeep.out wr.drew w' ⟨c1, d1, e0, e1, e2, f0, f1, f2⟩ hB' (Nat.le_refl _))) (first | (go_at_call 42; ((with_reducible refine (spec_l1SameCtor xs[k].ctors[m] ys[k].ctors[m] _ _ _ G3 G4 HV3.out.drew HV4.out.drew (Under.drew (HG3.out.mono hB.size)) (Under.drew (HG4.out.mono hB.size))).mono ?_); rintro e w' ⟨rfl, hB'⟩; rw [HS.out])))
                  have hB3 := hB.drew.trans (hB'.mono hB.size)
                  go_wp2
                  go_ret
                  exact ⟨ret_bool hf.out.symm, hB3⟩
              · have hT5 : Hid (sameBy Dt.same xs ys = sameBy Dt.same (xs.drop (k + 1)) (ys.drop (k + 1))) := by
                  have h3 := HT3.out
                  rw [List.drop_of_length_le (by omega), List.drop_of_length_le (by omega)] at h3
                  have h4 : sameBy Kt.same xs[k].ctors ys[k].ctors = true := h3
                  have hd2 := HD.out
                  rw [HSm.out, h4, Bool.true_and] at hd2
                  exact HT.out.trans hd2
                go_wp2
                go_roundw
                case rel => exact ⟨k + 1, by omega, by go_num, hT5, hB⟩
                case measure => simp [intOf]; omega
          · have tc : ((xs[k].ctors.length : Int) != (ys[k].ctors.length : Int)) = true := by rw [bne_iff_ne]; omega
            have hf : Hid (sameBy Dt.same xs ys = false) := by have hd := HD.out; rw [HSm.out, sameBy_len_false hlc, Bool.false_and] at hd; exact HT.out.trans hd
            clear hlc
            go_wp2_with fail
            go_quiet (fail)
            go_wp2
            go_ret
            exact ⟨ret_bool hf.out.symm, HBq.out _⟩
      · have hT := HT.out
        rw [List.drop_of_length_le (by omega), List.drop_of_length_le (by omega)] at hT
        have hf : Hid (sameBy Dt.same xs ys = true) := hT
        clear hT
        go_wp2
        go_ret
        exact ⟨ret_bool hf.out.symm, HBo.out⟩
  · have tl : ((xs.length : Int) != (ys.length : Int)) = true := by rw [bne_iff_ne]; omega
    have hf := Lib.hid (sameBy_len_false (f := Dt.same) hl)
    clear hl
    go_enter Try.func12, Try.ntmps12
    go_wp2
    go_ret
    exact ⟨ret_bool hf.out.symm, Below.refl _ _⟩
end Go.Proofs.Ytddjhneoacnkgaa
