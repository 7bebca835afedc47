/-
  Lemmas and contracts of functions: Contract of szClauseS. Conditions: the bound is between 0 and 1048576. Contract of toClauseS (deep copies). Conditions: no more than 1048576 parts. Contract of eqClauseS at equal lists. Conditions: both stand for the same list. ClausesValid of both. Conditions: no more than a million nodes.
-/
import Derived.Test.YtbffkgfhcmigaaaKAL
import Derived.Test.YtbffkgfhcmigaaaChecked
import Derived.Deep.RegionHeld3
import Derived.Test.YtbffkgfhcmigaaaKAF
import Derived.Laws.EntriesVeiled
import Derived.Deep.RegionWith
import Derived.Deep.QuietTactic
import Derived.BigQuiet
import Derived.IntWalk

set_option linter.unusedVariables false
set_option linter.unusedSimpArgs false

namespace Go.Proofs.Ytbffkgfhcmigaaa
open Go.RowKit

set_option maxHeartbeats 400000 in
theorem szClauseS_any (ks : List Cl) (w : World) (F : List Nat) (x : Value) (left : Int) (hx : Arr w (ClR w) ks x F) (hF : Under w.heap.size F) (h0 : 0 ≤ left) (h1 : left ≤ 1048576) :
    Calls Try.prog 41 #[x, .int .i64 left] w fun e w' => e = .returned (.int .i64 (szLeft (Cl.sizes ks) left)) ∧ Below w.heap.size w w' := by
  have HX := Lib.hid hx
  obtain ⟨A, cap, rfl, hl, hm⟩ := hx.form
  clear hx
  have HF := Lib.hid hF
  clear hF
  by_cases hneg : left - (ks.length : Int) < 0
  · have hf : Hid (szLeft (Cl.sizes ks) left = -1) := by
      unfold szLeft Cl.sizes; exact if_neg (by omega)
    go_enter Try.func41, Try.ntmps41
    go_wp2
    go_ret
    exact ⟨ret_int hf.out.symm, Below.refl _ _⟩
  · have hpos : 0 ≤ left - (ks.length : Int) := by omega
    clear hneg
    go_enter Try.func41, Try.ntmps41
    go_wp2
    go_loopw [1, 5] (fun l i wr => ∃ k : Nat, ∃ m : Int, k ≤ ks.length ∧ i = .int .i64 k ∧ l = .int .i64 m ∧ 0 ≤ m ∧ m ≤ 1048576 ∧ Hid (m = left - ks.length - sumBy Cl.size (ks.take k)) ∧ Below w.heap.size w wr) (fun _ i _ => ks.length - (intOf i).toNat)
    case atStart => exact ⟨0, _, Nat.zero_le _, rfl, rfl, hpos, by omega, by simp [Hid, sumBy], Below.refl _ _⟩
    case round =>
      obtain ⟨k, m, hk, rfl, rfl, hm0, hm1, HM, hB⟩ := hrel
      by_cases hlt : k < ks.length
      · obtain ⟨b, off, cs, G, rfl, hb, hcs, hvc, hG⟩ := HX.out.get ClR_len hlt
        have hbl := HF.out b hb
        have hGFc := HF.out.sub hG
        have hwc := hvc.below hB hGFc
        have hcsc := hcs.same (hB.block b hbl)
        obtain ⟨A1, cap1, rfl⟩ := ClR_form hvc
        have c0 := hcsc 0 _ rfl
        have c1 := hcsc 1 _ rfl
        have c2 := hcsc 2 _ rfl
        have c3 := hcsc 3 _ rfl
        have c4 := hcsc 4 _ rfl
        have c5 := hcsc 5 _ rfl
        have c6 := hcsc 6 _ rfl
        have c7 := hcsc 7 _ rfl
        have c8 := hcsc 8 _ rfl
        simp only [Nat.add_zero] at c0
        clear hcs hcsc hvc hG
        have HV := Lib.hid hwc
        clear hwc
        have HG := Lib.hid hGFc
        clear hGFc
        go_wp2_with fail
        refine (szClause_any ks[k] _ _ G m HV.out (HG.out.mono hB.size) hm0 hm1).mono ?_
        rintro e w' ⟨rfl, hB'⟩
        have hB2 := hB.trans (hB'.mono hB.size)
        by_cases hle : (ks[k].size : Int) ≤ m
        · have e1 : szLeft ks[k].size m = m - ks[k].size := if_pos hle
          rw [e1]
          have hs : Hid (m - ks[k].size = left - ks.length - sumBy Cl.size (ks.take (k + 1))) := by
            have := HM.out; rw [sumBy_take_succ _ ks k hlt]; unfold Hid; omega
          have hnn : 0 ≤ m - (ks[k].size : Int) := by omega
          have hn1 : m - (ks[k].size : Int) ≤ 1048576 := by omega
          clear e1
          generalize m - (ks[k].size : Int) = m' at *
          go_wp2
          go_roundw
          case rel => exact ⟨k + 1, m', by omega, by go_num, rfl, hnn, hn1, hs, hB2⟩
          case measure => simp [intOf]; omega
        · have e1 : szLeft ks[k].size m = -1 := if_neg hle
          rw [e1]
          have hf : Hid (szLeft (Cl.sizes ks) left = -1) := by
            unfold szLeft Cl.sizes
            have := HM.out
            have h2 := sumBy_take_le Cl.size ks (k + 1)
            rw [sumBy_take_succ _ ks k hlt] at h2
            exact if_neg (by omega)
          go_wp2
          go_ret
          exact ⟨ret_int hf.out.symm, hB2⟩
      · have hf : Hid (szLeft (Cl.sizes ks) left = m) := by
          have := HM.out
          rw [List.take_of_length_le (by omega)] at this
          unfold szLeft Cl.sizes Hid
          rw [if_pos (by omega)]; omega
        go_wp2
        go_ret
        exact ⟨ret_int hf.out.symm, hB⟩
end Go.Proofs.Ytbffkgfhcmigaaa

namespace Go.Proofs.Ytbffkgfhcmigaaa
open Go.RowKit

theorem info_Cl : (Try.prog.info? 68).map (fun i => (i.zero, i.size, i.bytes)) = some (some (.agg #[.int .i64 0, .int .i64 0, .int .i64 0, .int .i64 0, .int .i64 0, .slice none 0 0, .int .i64 0, .int .i64 0, .int .i64 0]), 9, 88) := by kernel_rfl

def MadeCls (w : World) (vs : List Cl) (e : Ending) (w' : World) : Prop := ∃ (x : Value) (F : List Nat), e = .returned x ∧ Below w.heap.size w w' ∧ Arr w' (ClR w') vs x F ∧ Free w' F ∧ Fresh w w' F

set_option maxHeartbeats 800000 in
theorem toClauseS_any (ks : List Cl) (w : World) (F : List Nat) (x : Value) (hx : Arr w (ClR w) ks x F) (hF : Under w.heap.size F) (hz : Cl.sizes ks ≤ 1048576) :
    Calls Try.prog 43 #[x] w (MadeCls w ks) := by
  have HX := Lib.hid hx
  obtain ⟨A, cap, rfl, hl, hm⟩ := hx.form
  clear hx
  have hn : ks.length ≤ 1048576 := by unfold Cl.sizes at hz; omega
  have HF := Lib.hid hF
  clear hF
  have HZ := Lib.hid hz
  clear hz
  obtain ⟨i0, hi, hz0, hz1, hz2⟩ := info_parts info_Cl
  have hmk := fun W => run_make_rowN (P := Try.prog) 75 68 i0 _ Try.underlying75 hi hz0 .i64 .i64 ks.length ks.length (Nat.le_refl _) (by rw [hz2]; omega) (by omega) W
  simp only [Value.cells, hz1] at hmk
  clear hi hz0 hz1 hz2
  generalize hC : madeCells #[.int .i64 0, .int .i64 0, .int .i64 0, .int .i64 0, .int .i64 0, .slice none 0 0, .int .i64 0, .int .i64 0, .int .i64 0] (ks.length * 9) = C at hmk
  have HC := Lib.hid hC
  clear hC
  go_enter Try.func43, Try.ntmps43
  go_wp2
  have HR0 := Lib.hid (show Row (w.alloc (.cells C 68)) w.heap.size 68 9 ks.length (ClR (w.alloc (.cells C 68))) ([] : List Cl) [] from by
    rw [← HC.out]; exact Row.made w _ 9 ks.length _ _)
  have hB0 : Below w.heap.size w (w.alloc (.cells C 68)) := (Below.refl _ _).alloc (Nat.le_refl _) _
  go_loopw [4] (fun i wr => ∃ k : Nat, ∃ G : List Nat, k ≤ ks.length ∧ i = .int .i64 k ∧ Below w.heap.size w wr ∧ Hid (Row wr w.heap.size 68 9 ks.length (ClR wr) (ks.take k) G ∧ Free wr G ∧ ∀ b ∈ G, w.heap.size < b ∧ b < wr.heap.size)) (fun i _ => ks.length - (intOf i).toNat)
  case atStart => exact ⟨0, [], Nat.zero_le _, rfl, hB0, ⟨HR0.out, Free.nil _, fun b hb => by cases hb⟩⟩
  case round =>
    obtain ⟨k, G0, hk, rfl, hB, HR⟩ := hrel
    have hgs := HR.out.1.lt
    by_cases hlt : k < ks.length
    · obtain ⟨b, off, cs, G, rfl, hb, hcs, hvc, hG⟩ := HX.out.get ClR_len hlt
      have hbl := HF.out b hb
      have hGFc := HF.out.sub hG
      have hwc := hvc.below hB hGFc
      have hcsc := hcs.same (hB.block b hbl)
      obtain ⟨A1, cap1, rfl⟩ := ClR_form hvc
      have c0 := hcsc 0 _ rfl
      have c1 := hcsc 1 _ rfl
      have c2 := hcsc 2 _ rfl
      have c3 := hcsc 3 _ rfl
      have c4 := hcsc 4 _ rfl
      have c5 := hcsc 5 _ rfl
      have c6 := hcsc 6 _ rfl
      have c7 := hcsc 7 _ rfl
      have c8 := hcsc 8 _ rfl
      simp only [Nat.add_zero] at c0
      clear hcs hcsc hvc hG
      have HV := Lib.hid hwc
      clear hwc
      have HG := Lib.hid hGFc
      clear hGFc
      go_wp2_with fail
      refine (toClause_any ks[k] _ _ G HV.out (HG.out.mono hB.size) (by
        have h1 := HZ.out
        have h2 := sumBy_mem_le Cl.size ks k hlt
        unfold Cl.sizes at h1
        omega)).mono ?_
      rintro e w' ⟨cs', H', rfl, hB', hv', hfr, hfs⟩
      obtain ⟨A', cap', rfl⟩ := ClR_form hv'
      have hGk : Kept G0 wr w' := .of_below hB' fun b hb => (HR.out.2.2 b hb).2
      have hR1 := HR.out.1.mono (w' := w') (R' := ClR w') (hB'.block _ hgs) hGk (fun x _ => ClR.mono x)
      have hn3 : k * 9 + 9 ≤ ks.length * 9 := by omega
      obtain ⟨⟨u0, d0⟩, f0⟩ := hR1.old (k * 9) (by omega)
      obtain ⟨⟨u1, d1⟩, f1⟩ := hR1.old (k * 9 + 1) (by omega)
      obtain ⟨⟨u2, d2⟩, f2⟩ := hR1.old (k * 9 + 2) (by omega)
      obtain ⟨⟨u3, d3⟩, f3⟩ := hR1.old (k * 9 + 3) (by omega)
      obtain ⟨⟨u4, d4⟩, f4⟩ := hR1.old (k * 9 + 4) (by omega)
      obtain ⟨⟨u5, d5⟩, f5⟩ := hR1.old (k * 9 + 5) (by omega)
      obtain ⟨⟨u6, d6⟩, f6⟩ := hR1.old (k * 9 + 6) (by omega)
      obtain ⟨⟨u7, d7⟩, f7⟩ := hR1.old (k * 9 + 7) (by omega)
      obtain ⟨⟨u8, d8⟩, f8⟩ := hR1.old (k * 9 + 8) (by omega)
      have HR1 := Lib.hid hR1
      clear hR1
      have hB3 := hB.trans (hB'.mono hB.size)
      have hg3 := putCells_grown w.heap.size [.int .i64 ks[k].pat.op, .int .i64 ks[k].pat.ct, .int .i64 ks[k].pat.n, .int .i64 ks[k].pat.m, .int .i64 ks[k].pat.va, .slice A' ks[k].pat.ks.length cap', .int .i64 ks[k].gd.op, .int .i64 ks[k].gd.va, .int .i64 ks[k].gd.n] w' (k * 9)
      have hB4 := Lib.hid (hB3.grown hg3.1 hB3.size (fun _ h => by cases h; exact Nat.le_refl _))
      have hkH : Kept H' w' (putCells w' w.heap.size (k * 9) [.int .i64 ks[k].pat.op, .int .i64 ks[k].pat.ct, .int .i64 ks[k].pat.n, .int .i64 ks[k].pat.m, .int .i64 ks[k].pat.va, .slice A' ks[k].pat.ks.length cap', .int .i64 ks[k].gd.op, .int .i64 ks[k].gd.va, .int .i64 ks[k].gd.n]) := fun b hb => hg3.1.block b (hfs b hb).2 (fun e => by cases e; have := (hfs _ hb).1; omega)
      have hkG : Kept G0 w' (putCells w' w.heap.size (k * 9) [.int .i64 ks[k].pat.op, .int .i64 ks[k].pat.ct, .int .i64 ks[k].pat.n, .int .i64 ks[k].pat.m, .int .i64 ks[k].pat.va, .slice A' ks[k].pat.ks.length cap', .int .i64 ks[k].gd.op, .int .i64 ks[k].gd.va, .int .i64 ks[k].gd.n]) := fun b hb => hg3.1.block b (Nat.lt_of_lt_of_le (HR.out.2.2 b hb).2 hB'.size) (fun e => by cases e; have := (HR.out.2.2 _ hb).1; omega)
      have hR4 := Lib.hid (by
        have h := Row.store (R' := ClR (putCells w' w.heap.size (k * 9) [.int .i64 ks[k].pat.op, .int .i64 ks[k].pat.ct, .int .i64 ks[k].pat.n, .int .i64 ks[k].pat.m, .int .i64 ks[k].pat.va, .slice A' ks[k].pat.ks.length cap', .int .i64 ks[k].gd.op, .int .i64 ks[k].gd.va, .int .i64 ks[k].gd.n])) (x := ks[k]) (cs := [.int .i64 ks[k].pat.op, .int .i64 ks[k].pat.ct, .int .i64 ks[k].pat.n, .int .i64 ks[k].pat.m, .int .i64 ks[k].pat.va, .slice A' ks[k].pat.ks.length cap', .int .i64 ks[k].gd.op, .int .i64 ks[k].gd.va, .int .i64 ks[k].gd.n]) ClR_len HR1.out rfl (by simp; omega) (fun hg => by have := (HR.out.2.2 _ hg).1; omega)
          (fun x _ ds H hk h => ClR.mono x ds H (by rw [show (ks.take k).length = k by simp; omega] at hk; exact hk) h)
          (ClR.mono _ _ _ hkH hv')
        rw [show (ks.take k).length = k by simp; omega] at h
        rw [← take_snoc' ks k hlt] at h
        exact (And.intro h (And.intro (show Free (putCells w' w.heap.size (k * 9) [.int .i64 ks[k].pat.op, .int .i64 ks[k].pat.ct, .int .i64 ks[k].pat.n, .int .i64 ks[k].pat.m, .int .i64 ks[k].pat.va, .slice A' ks[k].pat.ks.length cap', .int .i64 ks[k].gd.op, .int .i64 ks[k].gd.va, .int .i64 ks[k].gd.n]) (G0 ++ H') from
          ⟨List.nodup_append.2 ⟨HR.out.2.1.1, hfr.1, fun a ha c hc hac => by
              subst hac
              have := (HR.out.2.2 _ ha).2
              have := (hfs _ hc).1
              omega⟩,
           fun b hb i => by
            rcases List.mem_append.1 hb with hb | hb
            · exact ((HR.out.2.1.kept hGk).kept hkG).2 b hb i
            · exact (hfr.kept hkH).2 b hb i⟩)
          (show ∀ b ∈ G0 ++ H', w.heap.size < b ∧ b < (putCells w' w.heap.size (k * 9) [.int .i64 ks[k].pat.op, .int .i64 ks[k].pat.ct, .int .i64 ks[k].pat.n, .int .i64 ks[k].pat.m, .int .i64 ks[k].pat.va, .slice A' ks[k].pat.ks.length cap', .int .i64 ks[k].gd.op, .int .i64 ks[k].gd.va, .int .i64 ks[k].gd.n]).heap.size from fun b hb => by
            rw [hg3.2]
            rcases List.mem_append.1 hb with hb | hb
            · exact ⟨(HR.out.2.2 b hb).1, Nat.lt_of_lt_of_le (HR.out.2.2 b hb).2 hB'.size⟩
            · exact ⟨Nat.lt_of_lt_of_le hgs (hfs b hb).1, (hfs b hb).2⟩))))
      clear hg3 HR1 hv' hfr hfs hkH hkG hGk hB3 hB' HR HV
      go_wp2
      go_roundw
      case rel => exact ⟨k + 1, _, by omega, by go_num, hB4.out, hR4.out⟩
      case measure => simp [intOf]; omega
    · have hfin : MadeCls w ks (.returned (.slice (some ⟨w.heap.size, 0, none⟩) ks.length ks.length)) wr := by
        obtain ⟨h, hf, hb⟩ := HR.out
        rw [List.take_of_length_le (by omega)] at h
        have hng : w.heap.size ∉ G0 := fun hg => by have := (hb _ hg).1; omega
        obtain ⟨G', h1, h2⟩ := h.arr rfl (by unfold maxLen; omega)
        refine ⟨_, G', rfl, hB, h1, ?_, ?_⟩
        · rcases h2 with rfl | rfl
          · exact h.free hf hng
          · exact Free.nil _
        · rcases h2 with rfl | rfl
          · intro b hb'
            rcases List.mem_cons.1 hb' with rfl | hb'
            · exact ⟨Nat.le_refl _, hgs⟩
            · exact ⟨Nat.le_of_lt (hb b hb').1, (hb b hb').2⟩
          · exact Fresh.nil _ _
      have HFin := Lib.hid hfin
      clear hfin
      go_wp2
      go_ret
      exact HFin.out
end Go.Proofs.Ytbffkgfhcmigaaa

namespace Go.Proofs.Ytbffkgfhcmigaaa
open Go.RowKit

set_option maxHeartbeats 800000 in
theorem eqClauseS_any (ks : List Cl) (w : World) (F F2 : List Nat) (x y : Value) (hx : Arr w (ClR w) ks x F) (hy : Arr w (ClR w) ks y F2) (hF : Under w.heap.size F) (hF2 : Under w.heap.size F2) :
    Calls Try.prog 45 #[x, y] w fun e w' => e = .returned (.bool true) ∧ Below w.heap.size w w' := by
  have HX := Lib.hid hx
  have HY := Lib.hid hy
  obtain ⟨A, cap, rfl, hl, hm⟩ := hx.form
  obtain ⟨A', cap', rfl, hl', hm'⟩ := hy.form
  clear hx hy
  have HF := Lib.hid hF
  have HF2 := Lib.hid hF2
  clear hF hF2
  go_enter Try.func45, Try.ntmps45
  go_wp2
  go_loopw [5] (fun i wr => ∃ k : Nat, k ≤ ks.length ∧ i = .int .i64 k ∧ Below w.heap.size w wr) (fun i _ => ks.length - (intOf i).toNat)
  case atStart => exact ⟨0, Nat.zero_le _, rfl, Below.refl _ _⟩
  case round =>
    obtain ⟨k, hk, rfl, hB⟩ := hrel
    have hBs := hB.size
    by_cases hlt : k < ks.length
    · obtain ⟨b, off, cs, G, rfl, hb, hcs, hvc, hG⟩ := HX.out.get ClR_len hlt
      have hbl := HF.out b hb
      have hGFc := HF.out.sub hG
      have hwc := hvc.below hB hGFc
      have hcsc := hcs.same (hB.block b hbl)
      obtain ⟨A1, cap1, rfl⟩ := ClR_form hvc
      have c0 := hcsc 0 _ rfl
      have c1 := hcsc 1 _ rfl
      have c2 := hcsc 2 _ rfl
      have c3 := hcsc 3 _ rfl
      have c4 := hcsc 4 _ rfl
      have c5 := hcsc 5 _ rfl
      have c6 := hcsc 6 _ rfl
      have c7 := hcsc 7 _ rfl
      have c8 := hcsc 8 _ rfl
      simp only [Nat.add_zero] at c0
      clear hcs hcsc hvc hG
      have HV := Lib.hid hwc
      clear hwc
      have HG := Lib.hid hGFc
      clear hGFc
      obtain ⟨b2, off2, ds, G2, rfl, hb2, hds, hvd, hG2⟩ := HY.out.get ClR_len hlt
      have hbl2 := HF2.out b2 hb2
      have hGFd := HF2.out.sub hG2
      have hwd := hvd.below hB hGFd
      have hcsd := hds.same (hB.block b2 hbl2)
      obtain ⟨A2, cap2, rfl⟩ := ClR_form hvd
      have d0 := hcsd 0 _ rfl
      have d1 := hcsd 1 _ rfl
      have d2 := hcsd 2 _ rfl
      have d3 := hcsd 3 _ rfl
      have d4 := hcsd 4 _ rfl
      have d5 := hcsd 5 _ rfl
      have d6 := hcsd 6 _ rfl
      have d7 := hcsd 7 _ rfl
      have d8 := hcsd 8 _ rfl
      simp only [Nat.add_zero] at d0
      clear hds hcsd hvd hG2
      have HV2 := Lib.hid hwd
      clear hwd
      have HG2 := Lib.hid hGFd
      clear hGFd
      go_wp2_with fail
      have hkeep : ∀ U U' : World, (U.cell? ⟨b, off + k * 9, none⟩ = some (.int .i64 ks[k].pat.op) ∧ U.cell? ⟨b, off + k * 9 + 1, none⟩ = some (.int .i64 ks[k].pat.ct) ∧ U.cell? ⟨b, off + k * 9 + 2, none⟩ = some (.int .i64 ks[k].pat.n) ∧ U.cell? ⟨b, off + k * 9 + 3, none⟩ = some (.int .i64 ks[k].pat.m) ∧ U.cell? ⟨b, off + k * 9 + 4, none⟩ = some (.int .i64 ks[k].pat.va) ∧ U.cell? ⟨b, off + k * 9 + 5, none⟩ = some (.slice A1 ks[k].pat.ks.length cap1) ∧ U.cell? ⟨b, off + k * 9 + 6, none⟩ = some (.int .i64 ks[k].gd.op) ∧ U.cell? ⟨b, off + k * 9 + 7, none⟩ = some (.int .i64 ks[k].gd.va) ∧ U.cell? ⟨b, off + k * 9 + 8, none⟩ = some (.int .i64 ks[k].gd.n) ∧ U.cell? ⟨b2, off2 + k * 9, none⟩ = some (.int .i64 ks[k].pat.op) ∧ U.cell? ⟨b2, off2 + k * 9 + 1, none⟩ = some (.int .i64 ks[k].pat.ct) ∧ U.cell? ⟨b2, off2 + k * 9 + 2, none⟩ = some (.int .i64 ks[k].pat.n) ∧ U.cell? ⟨b2, off2 + k * 9 + 3, none⟩ = some (.int .i64 ks[k].pat.m) ∧ U.cell? ⟨b2, off2 + k * 9 + 4, none⟩ = some (.int .i64 ks[k].pat.va) ∧ U.cell? ⟨b2, off2 + k * 9 + 5, none⟩ = some (.slice A2 ks[k].pat.ks.length cap2) ∧ U.cell? ⟨b2, off2 + k * 9 + 6, none⟩ = some (.int .i64 ks[k].gd.op) ∧ U.cell? ⟨b2, off2 + k * 9 + 7, none⟩ = some (.int .i64 ks[k].gd.va) ∧ U.cell? ⟨b2, off2 + k * 9 + 8, none⟩ = some (.int .i64 ks[k].gd.n)) → Below U.heap.size U U' → wr.heap.size ≤ U.heap.size → (U'.cell? ⟨b, off + k * 9, none⟩ = some (.int .i64 ks[k].pat.op) ∧ U'.cell? ⟨b, off + k * 9 + 1, none⟩ = some (.int .i64 ks[k].pat.ct) ∧ U'.cell? ⟨b, off + k * 9 + 2, none⟩ = some (.int .i64 ks[k].pat.n) ∧ U'.cell? ⟨b, off + k * 9 + 3, none⟩ = some (.int .i64 ks[k].pat.m) ∧ U'.cell? ⟨b, off + k * 9 + 4, none⟩ = some (.int .i64 ks[k].pat.va) ∧ U'.cell? ⟨b, off + k * 9 + 5, none⟩ = some (.slice A1 ks[k].pat.ks.length cap1) ∧ U'.cell? ⟨b, off + k * 9 + 6, none⟩ = some (.int .i64 ks[k].gd.op) ∧ U'.cell? ⟨b, off + k * 9 + 7, none⟩ = some (.int .i64 ks[k].gd.va) ∧ U'.cell? ⟨b, off + k * 9 + 8, none⟩ = some (.int .i64 ks[k].gd.n) ∧ U'.cell? ⟨b2, off2 + k * 9, none⟩ = some (.int .i64 ks[k].pat.op) ∧ U'.cell? ⟨b2, off2 + k * 9 + 1, none⟩ = some (.int .i64 ks[k].pat.ct) ∧ U'.cell? ⟨b2, off2 + k * 9 + 2, none⟩ = some (.int .i64 ks[k].pat.n) ∧ U'.cell? ⟨b2, off2 + k * 9 + 3, none⟩ = some (.int .i64 ks[k].pat.m) ∧ U'.cell? ⟨b2, off2 + k * 9 + 4, none⟩ = some (.int .i64 ks[k].pat.va) ∧ U'.cell? ⟨b2, off2 + k * 9 + 5, none⟩ = some (.slice A2 ks[k].pat.ks.length cap2) ∧ U'.cell? ⟨b2, off2 + k * 9 + 6, none⟩ = some (.int .i64 ks[k].gd.op) ∧ U'.cell? ⟨b2, off2 + k * 9 + 7, none⟩ = some (.int .i64 ks[k].gd.va) ∧ U'.cell? ⟨b2, off2 + k * 9 + 8, none⟩ = some (.int .i64 ks[k].gd.n)) := fun U U' h hb hU => ⟨(hb.cell (Nat.lt_of_lt_of_le (show b < wr.heap.size from by omega) hU)).trans h.1, (hb.cell (Nat.lt_of_lt_of_le (show b < wr.heap.size from by omega) hU)).trans h.2.1, (hb.cell (Nat.lt_of_lt_of_le (show b < wr.heap.size from by omega) hU)).trans h.2.2.1, (hb.cell (Nat.lt_of_lt_of_le (show b < wr.heap.size from by omega) hU)).trans h.2.2.2.1, (hb.cell (Nat.lt_of_lt_of_le (show b < wr.heap.size from by omega) hU)).trans h.2.2.2.2.1, (hb.cell (Nat.lt_of_lt_of_le (show b < wr.heap.size from by omega) hU)).trans h.2.2.2.2.2.1, (hb.cell (Nat.lt_of_lt_of_le (show b < wr.heap.size from by omega) hU)).trans h.2.2.2.2.2.2.1, (hb.cell (Nat.lt_of_lt_of_le (show b < wr.heap.size from by omega) hU)).trans h.2.2.2.2.2.2.2.1, (hb.cell (Nat.lt_of_lt_of_le (show b < wr.heap.size from by omega) hU)).trans h.2.2.2.2.2.2.2.2.1, (hb.cell (Nat.lt_of_lt_of_le (show b2 < wr.heap.size from by omega) hU)).trans h.2.2.2.2.2.2.2.2.2.1, (hb.cell (Nat.lt_of_lt_of_le (show b2 < wr.heap.size from by omega) hU)).trans h.2.2.2.2.2.2.2.2.2.2.1, (hb.cell (Nat.lt_of_lt_of_le (show b2 < wr.heap.size from by omega) hU)).trans h.2.2.2.2.2.2.2.2.2.2.2.1, (hb.cell (Nat.lt_of_lt_of_le (show b2 < wr.heap.size from by omega) hU)).trans h.2.2.2.2.2.2.2.2.2.2.2.2.1, (hb.cell (Nat.lt_of_lt_of_le (show b2 < wr.heap.size from by omega) hU)).trans h.2.2.2.2.2.2.2.2.2.2.2.2.2.1, (hb.cell (Nat.lt_of_lt_of_le (show b2 < wr.heap.size from by omega) hU)).trans h.2.2.2.2.2.2.2.2.2.2.2.2.2.2.1, (hb.cell (Nat.lt_of_lt_of_le (show b2 < wr.heap.size from by omega) hU)).trans h.2.2.2.2.2.2.2.2.2.2.2.2.2.2.2.1, (hb.cell (Nat.lt_of_lt_of_le (show b2 < wr.heap.size from by omega) hU)).trans h.2.2.2.2.2.2.2.2.2.2.2.2.2.2.2.2.1, (hb.cell (Nat.lt_of_lt_of_le (show b2 < wr.heap.size from by omega) hU)).trans h.2.2.2.2.2.2.2.2.2.2.2.2.2.2.2.2.2⟩
      have HKeep := Lib.hid hkeep
      clear hkeep
      go_region_held3 (fun w' => w'.cell? ⟨b, off + k * 9, none⟩ = some (.int .i64 ks[k].pat.op) ∧ w'.cell? ⟨b, off + k * 9 + 1, none⟩ = some (.int .i64 ks[k].pat.ct) ∧ w'.cell? ⟨b, off + k * 9 + 2, none⟩ = some (.int .i64 ks[k].pat.n) ∧ w'.cell? ⟨b, off + k * 9 + 3, none⟩ = some (.int .i64 ks[k].pat.m) ∧ w'.cell? ⟨b, off + k * 9 + 4, none⟩ = some (.int .i64 ks[k].pat.va) ∧ w'.cell? ⟨b, off + k * 9 + 5, none⟩ = some (.slice A1 ks[k].pat.ks.length cap1) ∧ w'.cell? ⟨b, off + k * 9 + 6, none⟩ = some (.int .i64 ks[k].gd.op) ∧ w'.cell? ⟨b, off + k * 9 + 7, none⟩ = some (.int .i64 ks[k].gd.va) ∧ w'.cell? ⟨b, off + k * 9 + 8, none⟩ = some (.int .i64 ks[k].gd.n) ∧ w'.cell? ⟨b2, off2 + k * 9, none⟩ = some (.int .i64 ks[k].pat.op) ∧ w'.cell? ⟨b2, off2 + k * 9 + 1, none⟩ = some (.int .i64 ks[k].pat.ct) ∧ w'.cell? ⟨b2, off2 + k * 9 + 2, none⟩ = some (.int .i64 ks[k].pat.n) ∧ w'.cell? ⟨b2, off2 + k * 9 + 3, none⟩ = some (.int .i64 ks[k].pat.m) ∧ w'.cell? ⟨b2, off2 + k * 9 + 4, none⟩ = some (.int .i64 ks[k].pat.va) ∧ w'.cell? ⟨b2, off2 + k * 9 + 5, none⟩ = some (.slice A2 ks[k].pat.ks.length cap2) ∧ w'.cell? ⟨b2, off2 + k * 9 + 6, none⟩ = some (.int .i64 ks[k].gd.op) ∧ w'.cell? ⟨b2, off2 + k * 9 + 7, none⟩ = some (.int .i64 ks[k].gd.va) ∧ w'.cell? ⟨b2, off2 + k * 9 + 8, none⟩ = some (.int .i64 ks[k].gd.n)) (first | assumption | (exact ⟨c0, c1, c2, c3, c4, c5, c6, c7, c8, d0, d1, d2, d3, d4, d5, d6, d7, d8⟩) | (exact HKeep.out wr.drew w' ⟨c0, c1, c2, c3, c4, c5, c6, c7, c8, d0, d1, d2, d3, d4, d5, d6, d7, d8⟩ hB' (Nat.le_refl _))) (first | (go_at_call 40; ((with_reducible refine (eqClause_any ks[k] _ _ _ G G2 HV.out.drew HV2.out.drew (Under.drew (HG.out.mono hB.size)) (Under.drew (HG2.out.mono hB.size))).mono ?_); rintro e w' ⟨rfl, hB'⟩)))
      have hB3 := hB.drew.trans (hB'.mono hB.size)
      go_wp2
      go_roundw
      case rel => exact ⟨k + 1, by omega, by go_num, hB3⟩
      case measure => simp [intOf]; omega
    · go_wp2
      go_ret
      exact ⟨rfl, hB⟩
end Go.Proofs.Ytbffkgfhcmigaaa

namespace Go.Proofs.Ytbffkgfhcmigaaa
open Go.RowKit

theorem ArrCl.at {w0 w : World} {b off n cap : Nat} {F : List Nat} {l : List Cl} (h : Arr w0 (ClR w0) l (.slice (some ⟨b, off, none⟩) n cap) F) (hF : Under w0.heap.size F) (hB : Below w0.heap.size w0 w) (i : Nat) (hi : i < l.length) :
    ∃ A7 cap7 G, b < w.heap.size ∧ w.cell? ⟨b, off + i * 9, none⟩ = some (.int .i64 l[i].pat.op) ∧ w.cell? ⟨b, off + i * 9 + 1, none⟩ = some (.int .i64 l[i].pat.ct) ∧ w.cell? ⟨b, off + i * 9 + 2, none⟩ = some (.int .i64 l[i].pat.n) ∧ w.cell? ⟨b, off + i * 9 + 3, none⟩ = some (.int .i64 l[i].pat.m) ∧ w.cell? ⟨b, off + i * 9 + 4, none⟩ = some (.int .i64 l[i].pat.va) ∧ w.cell? ⟨b, off + i * 9 + 5, none⟩ = some (.slice A7 l[i].pat.ks.length cap7) ∧ w.cell? ⟨b, off + i * 9 + 6, none⟩ = some (.int .i64 l[i].gd.op) ∧ w.cell? ⟨b, off + i * 9 + 7, none⟩ = some (.int .i64 l[i].gd.va) ∧ w.cell? ⟨b, off + i * 9 + 8, none⟩ = some (.int .i64 l[i].gd.n) ∧ Hid (ClR w0 l[i] [.int .i64 l[i].pat.op, .int .i64 l[i].pat.ct, .int .i64 l[i].pat.n, .int .i64 l[i].pat.m, .int .i64 l[i].pat.va, .slice A7 l[i].pat.ks.length cap7, .int .i64 l[i].gd.op, .int .i64 l[i].gd.va, .int .i64 l[i].gd.n] G) ∧ Hid (Under w0.heap.size G) := by
  obtain ⟨b', off', cs, G, e, hb, hcs, hv, hG⟩ := h.get ClR_len hi
  cases e
  have hbl := hF _ hb
  have hc := hcs.same (hB.block _ hbl)
  obtain ⟨A7, cap7, rfl⟩ := ClR_form hv
  exact ⟨A7, cap7, G, Nat.lt_of_lt_of_le hbl hB.size, hc 0 _ rfl, hc 1 _ rfl, hc 2 _ rfl, hc 3 _ rfl, hc 4 _ rfl, hc 5 _ rfl, hc 6 _ rfl, hc 7 _ rfl, hc 8 _ rfl, hv, hF.sub hG⟩
theorem Cl.sizes_mem {l : List Cl} {i : Nat} (hi : i < l.length) : l[i].pat.size ≤ Cl.sizes l := by
  have h := sumBy_mem_le Cl.size l i hi
  unfold Cl.sizes
  have : Cl.size l[i] = l[i].pat.size := rfl
  omega

set_option maxRecDepth 100000 in
set_option maxHeartbeats 1600000 in
theorem clausesValid_closure (xs : List Dt) (t : Ty) (hty : typeValidB xs t = true) (c : Cl) (hz : c.pat.size ≤ 1048576) (A : Option Addr) (cap : Nat) (g1 g2 : Nat) (w : World) (F : List Nat) (cs : List Value) (G : List Nat) (hx : Arr w (DtR w) xs (.slice A xs.length cap) F) (hf : Under w.heap.size F) (hv : ClR w c cs G) (hg : Under w.heap.size G) (hg1 : w.cell? ⟨g1, 0, none⟩ = some (.slice A xs.length cap)) (hl1 : g1 < w.heap.size) (hg2 : w.cell? ⟨g2, 0, none⟩ = some (.int .i64 t.d)) (hg3 : w.cell? ⟨g2, 1, none⟩ = some (.int .i64 t.i)) (hl2 : g2 < w.heap.size) :
    Calls Try.prog 102 #[.agg cs.toArray, .pointer (some ⟨g1, 0, none⟩), .pointer (some ⟨g2, 0, none⟩)] w fun e w' => e = .returned (.bool (!clauseB xs t c)) ∧ Below w.heap.size w w' := by
  obtain ⟨A4, cap4, rfl⟩ := ClR_form hv
  have HV := Lib.hid hv
  have HX := Lib.hid hx
  have HF := Lib.hid hf
  have HG := Lib.hid hg
  clear hx hf hg
  clear hv
  go_enter Try.func102, Try.ntmps102
  go_wp2_with fail
  obtain ⟨W2, hW2⟩ : ∃ W2, W2 = (w.alloc (.cells #[.int .i64 c.pat.op, .int .i64 c.pat.ct, .int .i64 c.pat.n, .int .i64 c.pat.m, .int .i64 c.pat.va, .slice A4 c.pat.ks.length cap4, .int .i64 c.gd.op, .int .i64 c.gd.va, .int .i64 c.gd.n] 68)) := ⟨_, rfl⟩
  have hB : Below w.heap.size w W2 := by rw [hW2]; exact (Below.refl _ _).alloc (Nat.le_refl _) _
  have KP : Blk W2 w.heap.size 68 #[.int .i64 c.pat.op, .int .i64 c.pat.ct, .int .i64 c.pat.n, .int .i64 c.pat.m, .int .i64 c.pat.va, .slice A4 c.pat.ks.length cap4, .int .i64 c.gd.op, .int .i64 c.gd.va, .int .i64 c.gd.n] := by rw [hW2]; exact Blk.new _ _ _
  have z0 : W2.cell? ⟨w.heap.size, 0, none⟩ = some (.int .i64 c.pat.op) := (KP.cell 0).trans (by simp)
  have z1 : W2.cell? ⟨w.heap.size, 1, none⟩ = some (.int .i64 c.pat.ct) := (KP.cell 1).trans (by simp)
  have z2 : W2.cell? ⟨w.heap.size, 2, none⟩ = some (.int .i64 c.pat.n) := (KP.cell 2).trans (by simp)
  have z3 : W2.cell? ⟨w.heap.size, 3, none⟩ = some (.int .i64 c.pat.m) := (KP.cell 3).trans (by simp)
  have z4 : W2.cell? ⟨w.heap.size, 4, none⟩ = some (.int .i64 c.pat.va) := (KP.cell 4).trans (by simp)
  have z5 : W2.cell? ⟨w.heap.size, 5, none⟩ = some (.slice A4 c.pat.ks.length cap4) := (KP.cell 5).trans (by simp)
  have z6 : W2.cell? ⟨w.heap.size, 6, none⟩ = some (.int .i64 c.gd.op) := (KP.cell 6).trans (by simp)
  have z7 : W2.cell? ⟨w.heap.size, 7, none⟩ = some (.int .i64 c.gd.va) := (KP.cell 7).trans (by simp)
  have z8 : W2.cell? ⟨w.heap.size, 8, none⟩ = some (.int .i64 c.gd.n) := (KP.cell 8).trans (by simp)
  have klt := KP.lt
  have y0 : W2.cell? ⟨g1, 0, none⟩ = some (.slice A xs.length cap) := (hB.cell (p := ⟨g1, 0, none⟩) hl1).trans hg1
  have y1 : W2.cell? ⟨g2, 0, none⟩ = some (.int .i64 t.d) := (hB.cell (p := ⟨g2, 0, none⟩) hl2).trans hg2
  have y2 : W2.cell? ⟨g2, 1, none⟩ = some (.int .i64 t.i) := (hB.cell (p := ⟨g2, 1, none⟩) hl2).trans hg3
  have l1 := Nat.lt_of_lt_of_le hl1 hB.size
  have l2 := Nat.lt_of_lt_of_le hl2 hB.size
  rw [← hW2]
  clear hW2 KP hg1 hg2 hg3 hl1 hl2
  go_wp2_with fail
  refine (impl_clauseOk xs t hty c hz W2 _ F _ G (ArrDt.below HX.out hB HF.out) (HF.out.mono hB.size) (HV.out.below hB HG.out) (HG.out.mono hB.size)).mono ?_
  rintro e w' ⟨rfl, hB'⟩
  have hB3 := hB.trans (hB'.mono hB.size)
  generalize hbb : clauseB xs t c = bb
  have HBB := Lib.hid hbb
  clear hbb hB' y0 y1 y2 z0 z1 z2 z3 z4 z5 z6 z7 z8
  go_wp2
  go_ret
  exact ⟨ret_bool (by rw [HBB.out]), hB3⟩
set_option maxRecDepth 100000 in
set_option maxHeartbeats 1600000 in
theorem IndexFunc_Cl (xs : List Dt) (t : Ty) (hty : typeValidB xs t = true) (A : Option Addr) (cap : Nat) (g1 g2 : Nat) (l : List Cl) (hz : Cl.sizes l ≤ 1048576) (r : Int) (hr : FirstAt (fun c => !clauseB xs t c) l r) (w : World) (y : Value) (F G : List Nat) (hx : Arr w (DtR w) xs (.slice A xs.length cap) F) (hf : Under w.heap.size F) (hy : Arr w (ClR w) l y G) (hh : Under w.heap.size G) (hg1 : w.cell? ⟨g1, 0, none⟩ = some (.slice A xs.length cap)) (hl1 : g1 < w.heap.size) (hg2 : w.cell? ⟨g2, 0, none⟩ = some (.int .i64 t.d)) (hg3 : w.cell? ⟨g2, 1, none⟩ = some (.int .i64 t.i)) (hl2 : g2 < w.heap.size) :
    Calls Try.prog 151 #[y, .func (.func 102) #[] #[.pointer (some ⟨g1, 0, none⟩), .pointer (some ⟨g2, 0, none⟩)]] w fun e w' => e = .returned (.int .i64 r) ∧ Below w.heap.size w w' := by
  obtain ⟨B, bap, rfl, hc1, hc2⟩ := hy.form
  have HX := Lib.hid hx
  have HF := Lib.hid hf
  have HR := Lib.hid hr
  have HY := Lib.hid hy
  have HH := Lib.hid hh
  have HG1 := Lib.hid hg1
  have HG2 := Lib.hid hg2
  have HG3 := Lib.hid hg3
  clear hx hf hr hy hh hg1 hg2 hg3
  go_enter Try.func151, Try.ntmps151
  go_wp2
  go_loopw [8] (fun iv wr => ∃ i : Nat, i ≤ l.length ∧ iv = .int .i64 i ∧ Hid (∀ j (hj : j < l.length), j < i → (!clauseB xs t l[j]) = false) ∧ Below w.heap.size w wr) (fun iv _ => l.length - (intOf iv).toNat)
  case atStart => exact ⟨0, Nat.zero_le _, rfl, fun j hj h => by omega, Below.refl _ _⟩
  case round =>
    obtain ⟨i, hk, rfl, HT, hB⟩ := hrel
    by_cases hlt : i < l.length
    · have hi0 : (0 : Int) ≤ (i : Int) := by omega
      have hi1 : (i : Int) < (l.length : Int) := by omega
      obtain ⟨b, off, rfl⟩ := HY.out.ptr (by omega)
      obtain ⟨A7, cap7, G7, hb, c0, c1, c2, c3, c4, c5, c6, c7, c8, HV7, HG7⟩ := ArrCl.at HY.out HH.out hB i hlt
      go_wp2_with fail
      refine (clausesValid_closure xs t hty l[i] (Nat.le_trans (Cl.sizes_mem hlt) hz) A cap g1 g2 wr F _ G7 (ArrDt.below HX.out hB HF.out) (HF.out.mono hB.size) (HV7.out.below hB HG7.out) (HG7.out.mono hB.size) ((hB.cell (p := ⟨g1, 0, none⟩) hl1).trans HG1.out) (Nat.lt_of_lt_of_le hl1 hB.size) ((hB.cell (p := ⟨g2, 0, none⟩) hl2).trans HG2.out) ((hB.cell (p := ⟨g2, 1, none⟩) hl2).trans HG3.out) (Nat.lt_of_lt_of_le hl2 hB.size)).mono ?_
      rintro e w' ⟨rfl, hB'⟩
      have hB3 := hB.trans (hB'.mono hB.size)
      cases hq : clauseB xs t l[i] with
      | false =>
        have hf : Hid (r = (i : Int)) := HR.out.hit hlt (by simp [hq]) (fun j hj h => HT.out j hj h)
        clear hq c0 c1 c2 c3 c4 c5 c6 c7 c8
        go_wp2
        go_ret
        exact ⟨ret_int hf.out.symm, hB3⟩
      | true =>
        have hT2 : Hid (∀ j (hj : j < l.length), j < i + 1 → (!clauseB xs t l[j]) = false) := fun j hj h => by
          rcases Nat.lt_or_ge j i with h2 | h2
          · exact HT.out j hj h2
          · obtain rfl : j = i := by omega
            rw [hq]; rfl
        clear hq c0 c1 c2 c3 c4 c5 c6 c7 c8
        go_wp2
        go_roundw
        case rel => exact ⟨i + 1, by omega, by go_num, hT2, hB3⟩
        case measure => simp [intOf]; omega
    · have hf : Hid (r = -1) := HR.out.miss (fun j hj => HT.out j hj (by omega))
      go_wp2
      go_ret
      exact ⟨ret_int hf.out.symm, hB⟩
set_option maxRecDepth 100000 in
set_option maxHeartbeats 1600000 in
theorem ContainsFunc_Cl (xs : List Dt) (t : Ty) (hty : typeValidB xs t = true) (A : Option Addr) (cap : Nat) (g1 g2 : Nat) (l : List Cl) (hz : Cl.sizes l ≤ 1048576) (w : World) (y : Value) (F G : List Nat) (hx : Arr w (DtR w) xs (.slice A xs.length cap) F) (hf : Under w.heap.size F) (hy : Arr w (ClR w) l y G) (hh : Under w.heap.size G) (hg1 : w.cell? ⟨g1, 0, none⟩ = some (.slice A xs.length cap)) (hl1 : g1 < w.heap.size) (hg2 : w.cell? ⟨g2, 0, none⟩ = some (.int .i64 t.d)) (hg3 : w.cell? ⟨g2, 1, none⟩ = some (.int .i64 t.i)) (hl2 : g2 < w.heap.size) :
    Calls Try.prog 101 #[y, .func (.func 102) #[] #[.pointer (some ⟨g1, 0, none⟩), .pointer (some ⟨g2, 0, none⟩)]] w fun e w' => e = .returned (.bool (l.any fun c => !clauseB xs t c)) ∧ Below w.heap.size w w' := by
  obtain ⟨r, hr⟩ := FirstAt.ex (fun c => !clauseB xs t c) l
  have hres : Hid ((l.any fun c => !clauseB xs t c) = decide (0 ≤ r)) := hr.any
  have hcall := IndexFunc_Cl xs t hty A cap g1 g2 l hz r hr w y F G hx hf hy hh hg1 hl1 hg2 hg3 hl2
  obtain ⟨B, bap, rfl, hc1, hc2⟩ := hy.form
  have HC := Lib.hid hcall
  clear hcall hr hx hf hy hh hg1 hg2 hg3
  go_enter Try.func101, Try.ntmps101
  go_wp2_with fail
  refine HC.out.mono ?_
  rintro e w' ⟨rfl, hB'⟩
  go_wp2
  go_ret
  exact ⟨ret_bool hres.out.symm, hB'⟩
theorem all_any (xs : List Dt) (t : Ty) (l : List Cl) : l.all (clauseB xs t) = !(l.any fun c => !clauseB xs t c) := by
  induction l with
  | nil => rfl
  | cons a l ih => rw [List.all_cons, List.any_cons, ih]; cases clauseB xs t a <;> rfl

set_option maxRecDepth 100000 in
set_option maxHeartbeats 1600000 in
theorem impl_ClausesValid (xs : List Dt) (t : Ty) (l : List Cl) (hz : Cl.sizes l ≤ 1048576) (w : World) (x y : Value) (F G : List Nat) (hx : Arr w (DtR w) xs x F) (hf : Under w.heap.size F) (hy : Arr w (ClR w) l y G) (hh : Under w.heap.size G) :
    Calls Try.prog 44 #[x, .agg #[.int .i64 t.d, .int .i64 t.i], y] w fun e w' => e = .returned (.bool (clausesValidB xs t l)) ∧ Below w.heap.size w w' := by
  obtain ⟨A, cap, rfl, hc1, hc2⟩ := hx.form
  obtain ⟨B, bap, rfl, hc3, hc4⟩ := hy.form
  have HALL := Lib.hid (all_any xs t l)
  have HX := Lib.hid hx
  have HF := Lib.hid hf
  have HY := Lib.hid hy
  have HH := Lib.hid hh
  clear hx hf hy hh
  go_enter Try.func44, Try.ntmps44
  go_wp2_with fail
  obtain ⟨W2, hW2⟩ : ∃ W2, W2 = ((w.alloc (.cells #[.slice A xs.length cap] 35)).alloc (.cells #[.int .i64 t.d, .int .i64 t.i] 37)) := ⟨_, rfl⟩
  have hB0 : Below w.heap.size w W2 := by rw [hW2]; exact ((Below.refl _ _).alloc (Nat.le_refl _) _).alloc (by simp) _
  have KX : Hid (Blk W2 w.heap.size 35 #[.slice A xs.length cap]) := by rw [hW2]; exact (Blk.new w _ _).same (Below.heap_alloc _ _ _ (by simp))
  have KT : Hid (Blk W2 (w.heap.size + 1) 37 #[.int .i64 t.d, .int .i64 t.i]) := by rw [hW2]; have h := Blk.new (w.alloc (.cells #[.slice A xs.length cap] 35)) 37 #[.int .i64 t.d, .int .i64 t.i]; rw [World.size_alloc] at h; exact h
  rw [← hW2]
  clear hW2
  have q0 : W2.cell? ⟨w.heap.size, 0, none⟩ = some (.slice A xs.length cap) := (KX.out.cell 0).trans (by simp)
  have q1 : W2.cell? ⟨w.heap.size + 1, 0, none⟩ = some (.int .i64 t.d) := (KT.out.cell 0).trans (by simp)
  have q2 : W2.cell? ⟨w.heap.size + 1, 1, none⟩ = some (.int .i64 t.i) := (KT.out.cell 1).trans (by simp)
  have klt := KX.out.lt
  have klt2 := KT.out.lt
  go_wp2_with fail
  refine (impl_TypeValid xs t W2 _ F (ArrDt.below HX.out hB0 HF.out) (HF.out.mono hB0.size)).mono ?_
  rintro e w3 ⟨rfl, hb3⟩
  have hB3 := hB0.trans (hb3.mono hB0.size)
  have KX3 := Lib.hid (KX.out.same (hb3.block _ KX.out.lt))
  have KT3 := Lib.hid (KT.out.same (hb3.block _ KT.out.lt))
  clear q0 q1 q2 klt klt2
  have q0 : w3.cell? ⟨w.heap.size, 0, none⟩ = some (.slice A xs.length cap) := (KX3.out.cell 0).trans (by simp)
  have q1 : w3.cell? ⟨w.heap.size + 1, 0, none⟩ = some (.int .i64 t.d) := (KT3.out.cell 0).trans (by simp)
  have q2 : w3.cell? ⟨w.heap.size + 1, 1, none⟩ = some (.int .i64 t.i) := (KT3.out.cell 1).trans (by simp)
  have klt := KX3.out.lt
  have klt2 := KT3.out.lt
  clear hb3 KT KX
  cases e1 : typeValidB xs t with
  | false =>
    have hf : Hid (clausesValidB xs t l = false) := by unfold Hid clausesValidB; rw [e1]; rfl
    clear e1
    go_wp2
    go_ret
    exact ⟨ret_bool hf.out.symm, hB3⟩
  | true =>
    have HE := Lib.hid e1
    by_cases hl8 : l.length ≤ 8
    · have d0 : decide ((l.length : Int) ≤ 8) = true := decide_eq_true (by omega)
      have hf : Hid (clausesValidB xs t l = !(l.any fun c => !clauseB xs t c)) := by unfold Hid clausesValidB; rw [e1, decide_eq_true hl8, HALL.out]; rfl
      clear e1
      go_wp2_with fail
      refine (ContainsFunc_Cl xs t HE.out A cap w.heap.size (w.heap.size + 1) l hz w3 _ F G (ArrDt.below HX.out hB3 HF.out) (HF.out.mono hB3.size) (ArrCl.below HY.out hB3 HH.out) (HH.out.mono hB3.size) q0 klt q1 q2 klt2).mono ?_
      rintro e w4 ⟨rfl, hb4⟩
      have hB4 := hB3.trans (hb4.mono hB3.size)
      generalize (l.any fun c => !clauseB xs t c) = bb at *
      clear hb4 q0 q1 q2
      go_wp2
      go_ret
      exact ⟨ret_bool hf.out.symm, hB4⟩
    · have d0 : decide ((l.length : Int) ≤ 8) = false := decide_eq_false (by omega)
      have hf : Hid (clausesValidB xs t l = false) := by unfold Hid clausesValidB; rw [e1, decide_eq_false hl8]; rfl
      clear e1
      go_wp2
      go_ret
      exact ⟨ret_bool hf.out.symm, hB3⟩

set_option maxRecDepth 100000 in
set_option maxHeartbeats 1600000 in
theorem spec_ClausesValid (xs : List Dt) (t : Ty) (l : List Cl) (hz : Cl.sizes l ≤ 1048576) (w : World) (x y : Value) (F G : List Nat) (hx : Arr w (DtR w) xs x F) (hf : Under w.heap.size F) (hy : Arr w (ClR w) l y G) (hh : Under w.heap.size G) :
    Calls Try.prog 42 #[x, .agg #[.int .i64 t.d, .int .i64 t.i], y] w fun e w' => e = .returned (.bool (clausesValidB xs t l)) ∧ Below w.heap.size w w' := by
  obtain ⟨A, cap, rfl, hc1, hc2⟩ := hx.form
  obtain ⟨B, bap, rfl, hc3, hc4⟩ := hy.form
  have HX := Lib.hid hx
  have HF := Lib.hid hf
  have HY := Lib.hid hy
  have HH := Lib.hid hh
  clear hx hf hy hh
  go_enter Try.func42, Try.ntmps42
  go_wp2_with fail
  obtain ⟨W2, hW2⟩ : ∃ W2, W2 = (w.alloc (.cells #[.int .i64 t.d, .int .i64 t.i] 37)) := ⟨_, rfl⟩
  have hB0 : Below w.heap.size w W2 := by rw [hW2]; exact (Below.refl _ _).alloc (Nat.le_refl _) _
  have KT : Hid (Blk W2 w.heap.size 37 #[.int .i64 t.d, .int .i64 t.i]) := by rw [hW2]; exact Blk.new w _ _
  rw [← hW2]
  clear hW2
  have y0 : W2.cell? ⟨w.heap.size, 0, none⟩ = some (.int .i64 t.d) := (KT.out.cell 0).trans (by simp)
  have y1 : W2.cell? ⟨w.heap.size, 1, none⟩ = some (.int .i64 t.i) := (KT.out.cell 1).trans (by simp)
  have klt := KT.out.lt
  go_wp2_with fail
  refine (spec_TypeValid xs t W2 _ F (ArrDt.below HX.out hB0 HF.out) (HF.out.mono hB0.size)).mono ?_
  rintro e w3 ⟨rfl, hb3⟩
  have hB3 := hB0.trans (hb3.mono hB0.size)
  have KT3 := Lib.hid (KT.out.same (hb3.block _ KT.out.lt))
  clear y0 y1 klt
  have y0 : w3.cell? ⟨w.heap.size, 0, none⟩ = some (.int .i64 t.d) := (KT3.out.cell 0).trans (by simp)
  have y1 : w3.cell? ⟨w.heap.size, 1, none⟩ = some (.int .i64 t.i) := (KT3.out.cell 1).trans (by simp)
  have klt := KT3.out.lt
  clear hb3 KT
  cases e1 : typeValidB xs t with
  | false =>
    have hf : Hid (clausesValidB xs t l = false) := by unfold Hid clausesValidB; rw [e1]; rfl
    clear e1
    go_wp2
    go_ret
    exact ⟨ret_bool hf.out.symm, hB3⟩
  | true =>
    have HE := Lib.hid e1
    by_cases hl8 : l.length ≤ 8
    · have d0 : decide ((l.length : Int) > 8) = false := decide_eq_false (by omega)
      have hf : Hid (clausesValidB xs t l = l.all (clauseB xs t)) := by unfold Hid clausesValidB; rw [e1, decide_eq_true hl8]; rfl
      clear e1 y0 y1
      go_wp2
      go_loopw [7] (fun iv wr => ∃ i : Nat, i ≤ l.length ∧ iv = .int .i64 i ∧ Hid (l.all (clauseB xs t) = (l.drop i).all (clauseB xs t)) ∧ Hid (Blk wr w.heap.size 37 #[.int .i64 t.d, .int .i64 t.i]) ∧ Below w.heap.size w wr) (fun iv _ => l.length - (intOf iv).toNat)
      case atStart => exact ⟨0, Nat.zero_le _, rfl, rfl, KT3, hB3⟩
      case round =>
        clear hB3 KT3
        obtain ⟨i, hk, rfl, HA, KR, hB⟩ := hrel
        have y0 : wr.cell? ⟨w.heap.size, 0, none⟩ = some (.int .i64 t.d) := (KR.out.cell 0).trans (by simp)
        have y1 : wr.cell? ⟨w.heap.size, 1, none⟩ = some (.int .i64 t.i) := (KR.out.cell 1).trans (by simp)
        have klt := KR.out.lt
        by_cases hlt : i < l.length
        · have hi0 : (0 : Int) ≤ (i : Int) := by omega
          have hi1 : (i : Int) < (l.length : Int) := by omega
          have HD := Lib.hid (all_dropV (clauseB xs t) l i hlt)
          obtain ⟨b, off, rfl⟩ := HY.out.ptr (by omega)
          obtain ⟨A7, cap7, G7, hb, c0, c1, c2, c3, c4, c5, c6, c7, c8, HV7, HG7⟩ := ArrCl.at HY.out HH.out hB i hlt
          have h1 := spec_l4Is xs t HE.out l[i] (Nat.le_trans (Cl.sizes_mem hlt) hz) wr.drew _ F _ G7 (ArrDt.below HX.out hB.drew HF.out) (HF.out.mono hB.drew.size) (HV7.out.below hB.drew HG7.out) (HG7.out.mono hB.size)
          have H1 := Lib.hid h1
          clear h1
          go_wp2_with fail
          have hkeep : ∀ U U' : World, (U.cell? ⟨w.heap.size, 0, none⟩ = some (.int .i64 t.d) ∧ U.cell? ⟨w.heap.size, 1, none⟩ = some (.int .i64 t.i) ∧ U.cell? ⟨b, off + i * 9, none⟩ = some (.int .i64 l[i].pat.op) ∧ U.cell? ⟨b, off + i * 9 + 1, none⟩ = some (.int .i64 l[i].pat.ct) ∧ U.cell? ⟨b, off + i * 9 + 2, none⟩ = some (.int .i64 l[i].pat.n) ∧ U.cell? ⟨b, off + i * 9 + 3, none⟩ = some (.int .i64 l[i].pat.m) ∧ U.cell? ⟨b, off + i * 9 + 4, none⟩ = some (.int .i64 l[i].pat.va) ∧ U.cell? ⟨b, off + i * 9 + 5, none⟩ = some (.slice A7 l[i].pat.ks.length cap7) ∧ U.cell? ⟨b, off + i * 9 + 6, none⟩ = some (.int .i64 l[i].gd.op) ∧ U.cell? ⟨b, off + i * 9 + 7, none⟩ = some (.int .i64 l[i].gd.va) ∧ U.cell? ⟨b, off + i * 9 + 8, none⟩ = some (.int .i64 l[i].gd.n)) → Below U.heap.size U U' → wr.heap.size ≤ U.heap.size → (U'.cell? ⟨w.heap.size, 0, none⟩ = some (.int .i64 t.d) ∧ U'.cell? ⟨w.heap.size, 1, none⟩ = some (.int .i64 t.i) ∧ U'.cell? ⟨b, off + i * 9, none⟩ = some (.int .i64 l[i].pat.op) ∧ U'.cell? ⟨b, off + i * 9 + 1, none⟩ = some (.int .i64 l[i].pat.ct) ∧ U'.cell? ⟨b, off + i * 9 + 2, none⟩ = some (.int .i64 l[i].pat.n) ∧ U'.cell? ⟨b, off + i * 9 + 3, none⟩ = some (.int .i64 l[i].pat.m) ∧ U'.cell? ⟨b, off + i * 9 + 4, none⟩ = some (.int .i64 l[i].pat.va) ∧ U'.cell? ⟨b, off + i * 9 + 5, none⟩ = some (.slice A7 l[i].pat.ks.length cap7) ∧ U'.cell? ⟨b, off + i * 9 + 6, none⟩ = some (.int .i64 l[i].gd.op) ∧ U'.cell? ⟨b, off + i * 9 + 7, none⟩ = some (.int .i64 l[i].gd.va) ∧ U'.cell? ⟨b, off + i * 9 + 8, none⟩ = some (.int .i64 l[i].gd.n)) := fun U U' h hUU hU => ⟨(hUU.cell (Nat.lt_of_lt_of_le (klt) hU)).trans h.1, (hUU.cell (Nat.lt_of_lt_of_le (klt) hU)).trans h.2.1, (hUU.cell (Nat.lt_of_lt_of_le (hb) hU)).trans h.2.2.1, (hUU.cell (Nat.lt_of_lt_of_le (hb) hU)).trans h.2.2.2.1, (hUU.cell (Nat.lt_of_lt_of_le (hb) hU)).trans h.2.2.2.2.1, (hUU.cell (Nat.lt_of_lt_of_le (hb) hU)).trans h.2.2.2.2.2.1, (hUU.cell (Nat.lt_of_lt_of_le (hb) hU)).trans h.2.2.2.2.2.2.1, (hUU.cell (Nat.lt_of_lt_of_le (hb) hU)).trans h.2.2.2.2.2.2.2.1, (hUU.cell (Nat.lt_of_lt_of_le (hb) hU)).trans h.2.2.2.2.2.2.2.2.1, (hUU.cell (Nat.lt_of_lt_of_le (hb) hU)).trans h.2.2.2.2.2.2.2.2.2.1, (hUU.cell (Nat.lt_of_lt_of_le (hb) hU)).trans h.2.2.2.2.2.2.2.2.2.2⟩
          have HKeep := Lib.hid hkeep
          clear hkeep
          go_region_held3 (fun w' => w'.cell? ⟨w.heap.size, 0, none⟩ = some (.int .i64 t.d) ∧ w'.cell? ⟨w.heap.size, 1, none⟩ = some (.int .i64 t.i) ∧ w'.cell? ⟨b, off + i * 9, none⟩ = some (.int .i64 l[i].pat.op) ∧ w'.cell? ⟨b, off + i * 9 + 1, none⟩ = some (.int .i64 l[i].pat.ct) ∧ w'.cell? ⟨b, off + i * 9 + 2, none⟩ = some (.int .i64 l[i].pat.n) ∧ w'.cell? ⟨b, off + i * 9 + 3, none⟩ = some (.int .i64 l[i].pat.m) ∧ w'.cell? ⟨b, off + i * 9 + 4, none⟩ = some (.int .i64 l[i].pat.va) ∧ w'.cell? ⟨b, off + i * 9 + 5, none⟩ = some (.slice A7 l[i].pat.ks.length cap7) ∧ w'.cell? ⟨b, off + i * 9 + 6, none⟩ = some (.int .i64 l[i].gd.op) ∧ w'.cell? ⟨b, off + i * 9 + 7, none⟩ = some (.int .i64 l[i].gd.va) ∧ w'.cell? ⟨b, off + i * 9 + 8, none⟩ = some (.int .i64 l[i].gd.n)) (first | assumption | (exact ⟨y0, y1, c0, c1, c2, c3, c4, c5, c6, c7, c8⟩) | (exact HKeep.out wr.drew w4 ⟨y0, y1, c0, c1, c2, c3, c4, c5, c6, c7, c8⟩ hb4 (Nat.le_refl _))) (first | (go_at_call 97; ((with_reducible refine (H1.out).mono ?_); rintro e w4 ⟨rfl, hb4⟩)))
          have hB4 := hB.drew.trans (hb4.mono hB.size)
          have KR4 := Lib.hid (KR.out.same (hb4.block _ KR.out.lt))
          clear y0 y1 c0 c1 c2 c3 c4 c5 c6 c7 c8 H1 KR
          cases hq : clauseB xs t l[i] with
          | false =>
            have hf2 : Hid (clausesValidB xs t l = false) := by unfold Hid; rw [hf.out, HA.out, HD.out, hq]; rfl
            clear hq
            go_wp2
            go_ret
            exact ⟨ret_bool hf2.out.symm, hB4⟩
          | true =>
            have HA2 : Hid (l.all (clauseB xs t) = (l.drop (i + 1)).all (clauseB xs t)) := by unfold Hid; rw [HA.out, HD.out, hq]; rfl
            clear hq
            go_wp2
            go_roundw
            case rel => exact ⟨i + 1, by omega, by go_num, HA2, KR4, hB4⟩
            case measure => simp [intOf]; omega
        · have hf2 : Hid (clausesValidB xs t l = true) := by unfold Hid; rw [hf.out, HA.out, List.drop_of_length_le (by omega)]; rfl
          clear y0 y1
          go_wp2
          go_ret
          exact ⟨ret_bool hf2.out.symm, hB⟩
    · have d0 : decide ((l.length : Int) > 8) = true := decide_eq_true (by omega)
      have hf : Hid (clausesValidB xs t l = false) := by unfold Hid clausesValidB; rw [e1, decide_eq_false hl8]; rfl
      clear e1
      go_wp2
      go_ret
      exact ⟨ret_bool hf.out.symm, hB3⟩
end Go.Proofs.Ytbffkgfhcmigaaa
