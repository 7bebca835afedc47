/-
  Contract of toCtorS (deep copies). Conditions: no more than 1048576 parts.
-/
import Derived.Test.YtddjhneoacnkgaaTo1Kt
import Derived.Test.YtddjhneoacnkgaaChecked
import Derived.Deep.RegionHeld3
namespace Go.Proofs.Ytddjhneoacnkgaa
open Go.RowKit

theorem info_Kt : (Try.prog.info? 68).map (fun i => (i.zero, i.size, i.bytes)) = some (some (.agg #[.string ⟨#[]⟩, .slice none 0 0, .int .i64 0]), 3, 48) := by kernel_rfl

def MadeKts (w : World) (vs : List Kt) (e : Ending) (w' : World) : Prop := ∃ (x : Value) (F : List Nat), e = .returned x ∧ Below w.heap.size w w' ∧ Arr w' (KtR w') vs x F ∧ Free w' F ∧ Fresh w w' F

set_option maxHeartbeats 800000 in
theorem toCtorS_any (ks : List Kt) (w : World) (F : List Nat) (x : Value) (hx : Arr w (KtR w) ks x F) (hF : Under w.heap.size F) (hz : Kt.sizes ks ≤ 1048576) :
    Calls Try.prog 76 #[x] w (MadeKts w ks) := by
  have HX := Lib.hid hx
  obtain ⟨A, cap, rfl, hl, hm⟩ := hx.form
  clear hx
  have hn : ks.length ≤ 1048576 := by unfold Kt.sizes at hz; omega
  have HF := Lib.hid hF
  clear hF
  have HZ := Lib.hid hz
  clear hz
  obtain ⟨i0, hi, hz0, hz1, hz2⟩ := info_parts info_Kt
  have hmk := fun W => run_make_rowN (P := Try.prog) 63 68 i0 _ Try.underlying63 hi hz0 .i64 .i64 ks.length ks.length (Nat.le_refl _) (by rw [hz2]; omega) (by omega) W
  simp only [Value.cells, hz1] at hmk
  clear hi hz0 hz1 hz2
  generalize hC : madeCells #[.string ⟨#[]⟩, .slice none 0 0, .int .i64 0] (ks.length * 3) = C at hmk
  have HC := Lib.hid hC
  clear hC
  go_enter Try.func76, Try.ntmps76
  go_wp2
  have HR0 := Lib.hid (show Row (w.alloc (.cells C 68)) w.heap.size 68 3 ks.length (KtR (w.alloc (.cells C 68))) ([] : List Kt) [] from by
    rw [← HC.out]; exact Row.made w _ 3 ks.length _ _)
  have hB0 : Below w.heap.size w (w.alloc (.cells C 68)) := (Below.refl _ _).alloc (Nat.le_refl _) _
  go_loopw [4] (fun i wr => ∃ k : Nat, ∃ G : List Nat, k ≤ ks.length ∧ i = .int .i64 k ∧ Below w.heap.size w wr ∧ Hid (Row wr w.heap.size 68 3 ks.length (KtR wr) (ks.take k) G ∧ Free wr G ∧ ∀ b ∈ G, w.heap.size < b ∧ b < wr.heap.size)) (fun i _ => ks.length - (intOf i).toNat)
  case atStart => exact ⟨0, [], Nat.zero_le _, rfl, hB0, ⟨HR0.out, Free.nil _, fun b hb => by cases hb⟩⟩
  case round =>
    obtain ⟨k, G0, hk, rfl, hB, HR⟩ := hrel
    have hgs := HR.out.1.lt
    by_cases hlt : k < ks.length
    · obtain ⟨b, off, cs, G, rfl, hb, hcs, hvc, hG⟩ := HX.out.get KtR_len hlt
      have hbl := HF.out b hb
      have hGFc := HF.out.sub hG
      have hwc := hvc.below hB hGFc
      have hcsc := hcs.same (hB.block b hbl)
      obtain ⟨A1, cap1, rfl⟩ := KtR_form hvc
      have c0 := hcsc 0 _ rfl
      have c1 := hcsc 1 _ rfl
      have c2 := hcsc 2 _ rfl
      simp only [Nat.add_zero] at c0
      clear hcs hcsc hvc hG
      have HV := Lib.hid hwc
      clear hwc
      have HG := Lib.hid hGFc
      clear hGFc
      go_wp2_with fail
      refine (toCtor_any ks[k] _ _ G HV.out (HG.out.mono hB.size) (by
        have h1 := HZ.out
        have h2 := sumBy_mem_le Kt.size ks k hlt
        unfold Kt.sizes at h1
        omega)).mono ?_
      rintro e w' ⟨cs', H', rfl, hB', hv', hfr, hfs⟩
      obtain ⟨A', cap', rfl⟩ := KtR_form hv'
      have hGk : Kept G0 wr w' := .of_below hB' fun b hb => (HR.out.2.2 b hb).2
      have hR1 := HR.out.1.mono (w' := w') (R' := KtR w') (hB'.block _ hgs) hGk (fun x _ => KtR.mono x)
      have hn3 : k * 3 + 3 ≤ ks.length * 3 := by omega
      obtain ⟨⟨u0, d0⟩, f0⟩ := hR1.old (k * 3) (by omega)
      obtain ⟨⟨u1, d1⟩, f1⟩ := hR1.old (k * 3 + 1) (by omega)
      obtain ⟨⟨u2, d2⟩, f2⟩ := hR1.old (k * 3 + 2) (by omega)
      have HR1 := Lib.hid hR1
      clear hR1
      have hB3 := hB.trans (hB'.mono hB.size)
      have hg3 := putCells_grown w.heap.size [.string ks[k].name, .slice A' ks[k].args.length cap', .int .i64 ks[k].idx] w' (k * 3)
      have hB4 := Lib.hid (hB3.grown hg3.1 hB3.size (fun _ h => by cases h; exact Nat.le_refl _))
      have hkH : Kept H' w' (putCells w' w.heap.size (k * 3) [.string ks[k].name, .slice A' ks[k].args.length cap', .int .i64 ks[k].idx]) := fun b hb => hg3.1.block b (hfs b hb).2 (fun e => by cases e; have := (hfs _ hb).1; omega)
      have hkG : Kept G0 w' (putCells w' w.heap.size (k * 3) [.string ks[k].name, .slice A' ks[k].args.length cap', .int .i64 ks[k].idx]) := fun b hb => hg3.1.block b (Nat.lt_of_lt_of_le (HR.out.2.2 b hb).2 hB'.size) (fun e => by cases e; have := (HR.out.2.2 _ hb).1; omega)
      have hR4 := Lib.hid (by
        have h := Row.store (R' := KtR (putCells w' w.heap.size (k * 3) [.string ks[k].name, .slice A' ks[k].args.length cap', .int .i64 ks[k].idx])) (x := ks[k]) (cs := [.string ks[k].name, .slice A' ks[k].args.length cap', .int .i64 ks[k].idx]) KtR_len HR1.out rfl (by simp; omega) (fun hg => by have := (HR.out.2.2 _ hg).1; omega)
          (fun x _ ds H hk h => KtR.mono x ds H (by rw [show (ks.take k).length = k by simp; omega] at hk; exact hk) h)
          (KtR.mono _ _ _ hkH hv')
        rw [show (ks.take k).length = k by simp; omega] at h
        rw [← take_snoc' ks k hlt] at h
        exact (And.intro h (And.intro (show Free (putCells w' w.heap.size (k * 3) [.string ks[k].name, .slice A' ks[k].args.length cap', .int .i64 ks[k].idx]) (G0 ++ H') from
          ⟨List.nodup_append.2 ⟨HR.out.2.1.1, hfr.1, fun a ha c hc hac => by
              subst hac
              have := (HR.out.2.2 _ ha).2
              have := (hfs _ hc).1
              omega⟩,
           fun b hb i => by
            rcases List.mem_append.1 hb with hb | hb
            · exact ((HR.out.2.1.kept hGk).kept hkG).2 b hb i
            · exact (hfr.kept hkH).2 b hb i⟩)
          (show ∀ b ∈ G0 ++ H', w.heap.size < b ∧ b < (putCells w' w.heap.size (k * 3) [.string ks[k].name, .slice A' ks[k].args.length cap', .int .i64 ks[k].idx]).heap.size from fun b hb => by
            rw [hg3.2]
            rcases List.mem_append.1 hb with hb | hb
            · exact ⟨(HR.out.2.2 b hb).1, Nat.lt_of_lt_of_le (HR.out.2.2 b hb).2 hB'.size⟩
            · exact ⟨Nat.lt_of_lt_of_le hgs (hfs b hb).1, (hfs b hb).2⟩))))
      clear hg3 HR1 hv' hfr hfs hkH hkG hGk hB3 hB' HR HV
      go_wp2
      go_roundw
      case rel => exact ⟨k + 1, _, by omega, by go_num, hB4.out, hR4.out⟩
      case measure => simp [intOf]; omega
    · have hfin : MadeKts w ks (.returned (.slice (some ⟨w.heap.size, 0, none⟩) ks.length ks.length)) wr := by
        obtain ⟨h, hf, hb⟩ := HR.out
        rw [List.take_of_length_le (by omega)] at h
        have hng : w.heap.size ∉ G0 := fun hg => by have := (hb _ hg).1; omega
        obtain ⟨G', h1, h2⟩ := h.arr rfl (by unfold maxLen; omega)
        refine ⟨_, G', rfl, hB, h1, ?_, ?_⟩
        · rcases h2 with rfl | rfl
          · exact h.free hf hng
          · exact Free.nil _
        · rcases h2 with rfl | rfl
          · intro b hb'
            rcases List.mem_cons.1 hb' with rfl | hb'
            · exact ⟨Nat.le_refl _, hgs⟩
            · exact ⟨Nat.le_of_lt (hb b hb').1, (hb b hb').2⟩
          · exact Fresh.nil _ _
      have HFin := Lib.hid hfin
      clear hfin
      go_wp2
      go_ret
      exact HFin.out
end Go.Proofs.Ytddjhneoacnkgaa
