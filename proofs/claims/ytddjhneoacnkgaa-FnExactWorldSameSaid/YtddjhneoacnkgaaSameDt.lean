/-
  WorldSame of the program: equality of worlds, by slices.EqualFunc and two closures. Conditions: none.
-/
import Derived.Test.YtddjhneoacnkgaaDt
import Derived.Test.YtddjhneoacnkgaaSameKt
import Derived.Laws.EntriesVeiled
namespace Go.Proofs.Ytddjhneoacnkgaa
open Go.RowKit

set_option maxRecDepth 100000 in
set_option maxHeartbeats 1600000 in
theorem EqualFunc_Kt (xs ys : List Kt) (w : World) (x y : Value) (F G : List Nat) (hx : Arr w (KtR w) xs x F) (hy : Arr w (KtR w) ys y G) (hF : Under w.heap.size F) (hG : Under w.heap.size G) :
    Calls Try.prog 48 #[x, y, .func (.func 44) #[] #[]] w fun e w' => e = .returned (.bool (sameBy Kt.same xs ys)) ∧ Below w.heap.size w w' := by
  have HX := Lib.hid hx
  have HY := Lib.hid hy
  obtain ⟨A, cap, rfl, hc1, hc2⟩ := hx.form
  obtain ⟨A', cap', rfl, hc3, hc4⟩ := hy.form
  clear hx hy
  have HF := Lib.hid hF
  have HG := Lib.hid hG
  clear hF hG
  by_cases hl : xs.length = ys.length
  · have tl : ((xs.length : Int) != (ys.length : Int)) = false := by rw [hl]; simp
    have hle1 : xs.length ≤ ys.length := by omega
    have hle2 : ys.length ≤ xs.length := by omega
    clear hl
    go_enter Try.func48, Try.ntmps48
    go_wp2
    go_loopw [17] (fun i wr => ∃ k : Nat, k ≤ xs.length ∧ i = .int .i64 k ∧ Hid (sameBy Kt.same xs ys = sameBy Kt.same (xs.drop k) (ys.drop k)) ∧ Below w.heap.size w wr) (fun i _ => xs.length - (intOf i).toNat)
    case atStart => exact ⟨0, Nat.zero_le _, rfl, rfl, Below.refl _ _⟩
    case round =>
      obtain ⟨k, hk, rfl, HT, hB⟩ := hrel
      by_cases hlt : k < xs.length
      · have hlt' : k < ys.length := by omega
        have hd := sameBy_drop (f := Kt.same) xs ys k hlt hlt'
        have HD := Lib.hid hd
        clear hd
        obtain ⟨b, off, cs, G_, rfl, hb, hcs, hvc, hG_⟩ := HX.out.get KtR_len hlt
        have hbl := HF.out b hb
        have hGFc := HF.out.sub hG_
        have hwc := hvc.below hB hGFc
        have hcsc := hcs.same (hB.block b hbl)
        obtain ⟨A1, cap1, rfl⟩ := KtR_form hvc
        have c0 := hcsc 0 _ rfl
        have c1 := hcsc 1 _ rfl
        have c2 := hcsc 2 _ rfl
        simp only [Nat.add_zero] at c0
        clear hcs hcsc hvc hG_
        have HV := Lib.hid hwc
        clear hwc
        have HG_ := Lib.hid hGFc
        clear hGFc
        obtain ⟨b2, off2, ds, G2, rfl, hb2, hds, hvd, hG2⟩ := HY.out.get KtR_len hlt'
        have hbl2 := HG.out b2 hb2
        have hGFd := HG.out.sub hG2
        have hwd := hvd.below hB hGFd
        have hcsd := hds.same (hB.block b2 hbl2)
        obtain ⟨A2, cap2, rfl⟩ := KtR_form hvd
        have d0 := hcsd 0 _ rfl
        have d1 := hcsd 1 _ rfl
        have d2 := hcsd 2 _ rfl
        simp only [Nat.add_zero] at d0
        clear hds hcsd hvd hG2
        have HV2 := Lib.hid hwd
        clear hwd
        have HG2 := Lib.hid hGFd
        clear hGFd
        have hblw := Nat.lt_of_lt_of_le hbl hB.size
        have hblw2 := Nat.lt_of_lt_of_le hbl2 hB.size
        go_wp2_with fail
        obtain ⟨W2, hW2⟩ : ∃ W2, W2 = (wr.alloc (.cells #[.string xs[k].name, .slice A1 xs[k].args.length cap1, .int .i64 xs[k].idx] 68)).alloc (.cells #[.string ys[k].name, .slice A2 ys[k].args.length cap2, .int .i64 ys[k].idx] 68) := ⟨_, rfl⟩
        have hb2 : Below wr.heap.size wr W2 := by rw [hW2]; exact ((Below.refl _ _).alloc (Nat.le_refl _) _).alloc (by simp) _
        rw [← hW2]
        clear hW2
        have hB2 := hB.trans (hb2.mono hB.size)
        refine (sameCtor_closure xs[k] ys[k] W2 _ _ G_ G2 (HV.out.below hb2 (HG_.out.mono hB.size)) (HV2.out.below hb2 (HG2.out.mono hB.size)) (HG_.out.mono hB2.size) (HG2.out.mono hB2.size)).mono ?_
        rintro e w' ⟨rfl, hB'⟩
        have hB3 := hB2.trans (hB'.mono hB2.size)
        cases hs : Kt.same xs[k] ys[k] with
        | true =>
          have hT2 : Hid (sameBy Kt.same xs ys = sameBy Kt.same (xs.drop (k + 1)) (ys.drop (k + 1))) := by have hd := HD.out; rw [hs, Bool.true_and] at hd; exact HT.out.trans hd
          clear hs
          go_wp2
          go_roundw
          case rel => exact ⟨k + 1, by omega, by go_num, hT2, hB3⟩
          case measure => simp [intOf]; omega
        | false =>
          have hf : Hid (sameBy Kt.same xs ys = false) := by have hd := HD.out; rw [hs, Bool.false_and] at hd; exact HT.out.trans hd
          clear hs
          go_wp2
          go_ret
          exact ⟨ret_bool hf.out.symm, hB3⟩
      · have hT := HT.out
        rw [List.drop_of_length_le (by omega), List.drop_of_length_le (by omega)] at hT
        have hf : Hid (sameBy Kt.same xs ys = true) := hT
        clear hT
        go_wp2
        go_ret
        exact ⟨ret_bool hf.out.symm, hB⟩
  · have tl : ((xs.length : Int) != (ys.length : Int)) = true := by rw [bne_iff_ne]; omega
    have hf := Lib.hid (sameBy_len_false (f := Kt.same) hl)
    clear hl
    go_enter Try.func48, Try.ntmps48
    go_wp2
    go_ret
    exact ⟨ret_bool hf.out.symm, Below.refl _ _⟩

def Dt.same (a b : Dt) : Bool := (a.name.toList == b.name.toList) && sameBy Kt.same a.ctors b.ctors
theorem Dt.same_iff (a b : Dt) : Dt.same a b = true ↔ a = b := by
  unfold Dt.same
  rw [Bool.and_eq_true, bytes_beq_iff, sameBy_iff Kt.same_iff]
  constructor
  · rintro ⟨h1, h2⟩; exact Dt.ext h1 h2
  · rintro rfl; exact ⟨rfl, rfl⟩

set_option maxRecDepth 100000 in
set_option maxHeartbeats 1600000 in
theorem sameData_closure (a b : Dt) (w : World) (cs ds : List Value) (F G : List Nat) (g : Nat) (hg : w.cell? ⟨g, 0, none⟩ = some (.func (.func 44) #[] #[])) (hgl : g < w.heap.size) (hv : DtR w a cs F) (hv' : DtR w b ds G) (hF : Under w.heap.size F) (hG : Under w.heap.size G) :
    Calls Try.prog 47 #[.agg cs.toArray, .agg ds.toArray, .pointer (some ⟨g, 0, none⟩)] w fun e w' => e = .returned (.bool (Dt.same a b)) ∧ Below w.heap.size w w' := by
  obtain ⟨kv, rfl, ha, hs⟩ := hv
  obtain ⟨kv', rfl, ha', hs'⟩ := hv'
  have HX := Lib.hid ha
  have HY := Lib.hid ha'
  obtain ⟨A, cap, rfl, hc1, hc2⟩ := ha.form
  obtain ⟨A', cap', rfl, hc3, hc4⟩ := ha'.form
  clear ha ha'
  have HF := Lib.hid hF
  have HG := Lib.hid hG
  clear hF hG
  cases e0 : (a.name.toList == b.name.toList) with
  | false =>
    have hf : Hid (Dt.same a b = false) := by unfold Dt.same; rw [e0]; rfl
    go_enter Try.func47, Try.ntmps47
    go_wp2
    go_ret
    exact ⟨ret_bool hf.out.symm, ((Below.refl _ _).alloc (Nat.le_refl _) _).alloc (by simp) _⟩
  | true =>
    have hsame : Dt.same a b = sameBy Kt.same a.ctors b.ctors := by unfold Dt.same; rw [e0, Bool.true_and]
    have HSame := Lib.hid hsame
    clear hsame
    go_enter Try.func47, Try.ntmps47
    go_wp2_with fail
    obtain ⟨W2, hW2⟩ : ∃ W2, W2 = (w.alloc (.cells #[.string a.name, .slice A a.ctors.length cap] 65)).alloc (.cells #[.string b.name, .slice A' b.ctors.length cap'] 65) := ⟨_, rfl⟩
    have hB2 : Below w.heap.size w W2 := by rw [hW2]; exact ((Below.refl _ _).alloc (Nat.le_refl _) _).alloc (by simp) _
    rw [← hW2]
    clear hW2
    refine (EqualFunc_Kt a.ctors b.ctors W2 _ _ F G (ArrKt.below HX.out hB2 HF.out) (ArrKt.below HY.out hB2 HG.out) (HF.out.mono hB2.size) (HG.out.mono hB2.size)).mono ?_
    rintro e w' ⟨rfl, hB'⟩
    have hB3 := hB2.trans (hB'.mono hB2.size)
    generalize sameBy Kt.same a.ctors b.ctors = bb at *
    go_wp2
    go_ret
    exact ⟨ret_bool HSame.out.symm, hB3⟩

set_option maxRecDepth 100000 in
set_option maxHeartbeats 1600000 in
theorem EqualFunc_Dt (xs ys : List Dt) (w : World) (x y : Value) (F G : List Nat) (g : Nat) (hg : w.cell? ⟨g, 0, none⟩ = some (.func (.func 44) #[] #[])) (hgl : g < w.heap.size) (hx : Arr w (DtR w) xs x F) (hy : Arr w (DtR w) ys y G) (hF : Under w.heap.size F) (hG : Under w.heap.size G) :
    Calls Try.prog 46 #[x, y, .func (.func 47) #[] #[.pointer (some ⟨g, 0, none⟩)]] w fun e w' => e = .returned (.bool (sameBy Dt.same xs ys)) ∧ Below w.heap.size w w' := by
  have HX := Lib.hid hx
  have HY := Lib.hid hy
  obtain ⟨A, cap, rfl, hc1, hc2⟩ := hx.form
  obtain ⟨A', cap', rfl, hc3, hc4⟩ := hy.form
  clear hx hy
  have HF := Lib.hid hF
  have HG := Lib.hid hG
  clear hF hG
  have HG0 := Lib.hid hg
  clear hg
  by_cases hl : xs.length = ys.length
  · have tl : ((xs.length : Int) != (ys.length : Int)) = false := by rw [hl]; simp
    have hle1 : xs.length ≤ ys.length := by omega
    have hle2 : ys.length ≤ xs.length := by omega
    clear hl
    go_enter Try.func46, Try.ntmps46
    go_wp2
    go_loopw [17] (fun i wr => ∃ k : Nat, k ≤ xs.length ∧ i = .int .i64 k ∧ Hid (sameBy Dt.same xs ys = sameBy Dt.same (xs.drop k) (ys.drop k)) ∧ Below w.heap.size w wr) (fun i _ => xs.length - (intOf i).toNat)
    case atStart => exact ⟨0, Nat.zero_le _, rfl, rfl, Below.refl _ _⟩
    case round =>
      obtain ⟨k, hk, rfl, HT, hB⟩ := hrel
      by_cases hlt : k < xs.length
      · have hlt' : k < ys.length := by omega
        have hd := sameBy_drop (f := Dt.same) xs ys k hlt hlt'
        have HD := Lib.hid hd
        clear hd
        obtain ⟨b, off, cs, G_, rfl, hb, hcs, hvc, hG_⟩ := HX.out.get DtR_len hlt
        have hbl := HF.out b hb
        have hGFc := HF.out.sub hG_
        have hwc := hvc.below hB hGFc
        have hcsc := hcs.same (hB.block b hbl)
        obtain ⟨A1, cap1, rfl⟩ := DtR_form hvc
        have c0 := hcsc 0 _ rfl
        have c1 := hcsc 1 _ rfl
        simp only [Nat.add_zero] at c0
        clear hcs hcsc hvc hG_
        have HV := Lib.hid hwc
        clear hwc
        have HG_ := Lib.hid hGFc
        clear hGFc
        obtain ⟨b2, off2, ds, G2, rfl, hb2, hds, hvd, hG2⟩ := HY.out.get DtR_len hlt'
        have hbl2 := HG.out b2 hb2
        have hGFd := HG.out.sub hG2
        have hwd := hvd.below hB hGFd
        have hcsd := hds.same (hB.block b2 hbl2)
        obtain ⟨A2, cap2, rfl⟩ := DtR_form hvd
        have d0 := hcsd 0 _ rfl
        have d1 := hcsd 1 _ rfl
        simp only [Nat.add_zero] at d0
        clear hds hcsd hvd hG2
        have HV2 := Lib.hid hwd
        clear hwd
        have HG2 := Lib.hid hGFd
        clear hGFd
        have hblw := Nat.lt_of_lt_of_le hbl hB.size
        have hblw2 := Nat.lt_of_lt_of_le hbl2 hB.size
        go_wp2_with fail
        obtain ⟨W2, hW2⟩ : ∃ W2, W2 = (wr.alloc (.cells #[.string xs[k].name, .slice A1 xs[k].ctors.length cap1] 65)).alloc (.cells #[.string ys[k].name, .slice A2 ys[k].ctors.length cap2] 65) := ⟨_, rfl⟩
        have hb2 : Below wr.heap.size wr W2 := by rw [hW2]; exact ((Below.refl _ _).alloc (Nat.le_refl _) _).alloc (by simp) _
        rw [← hW2]
        clear hW2
        have hB2 := hB.trans (hb2.mono hB.size)
        refine (sameData_closure xs[k] ys[k] W2 _ _ G_ G2 g ((hB2.cell (p := ⟨g, 0, none⟩) hgl).trans HG0.out) (Nat.lt_of_lt_of_le hgl hB2.size) (HV.out.below hb2 (HG_.out.mono hB.size)) (HV2.out.below hb2 (HG2.out.mono hB.size)) (HG_.out.mono hB2.size) (HG2.out.mono hB2.size)).mono ?_
        rintro e w' ⟨rfl, hB'⟩
        have hB3 := hB2.trans (hB'.mono hB2.size)
        cases hs : Dt.same xs[k] ys[k] with
        | true =>
          have hT2 : Hid (sameBy Dt.same xs ys = sameBy Dt.same (xs.drop (k + 1)) (ys.drop (k + 1))) := by have hd := HD.out; rw [hs, Bool.true_and] at hd; exact HT.out.trans hd
          clear hs
          go_wp2
          go_roundw
          case rel => exact ⟨k + 1, by omega, by go_num, hT2, hB3⟩
          case measure => simp [intOf]; omega
        | false =>
          have hf : Hid (sameBy Dt.same xs ys = false) := by have hd := HD.out; rw [hs, Bool.false_and] at hd; exact HT.out.trans hd
          clear hs
          go_wp2
          go_ret
          exact ⟨ret_bool hf.out.symm, hB3⟩
      · have hT := HT.out
        rw [List.drop_of_length_le (by omega), List.drop_of_length_le (by omega)] at hT
        have hf : Hid (sameBy Dt.same xs ys = true) := hT
        clear hT
        go_wp2
        go_ret
        exact ⟨ret_bool hf.out.symm, hB⟩
  · have tl : ((xs.length : Int) != (ys.length : Int)) = true := by rw [bne_iff_ne]; omega
    have hf := Lib.hid (sameBy_len_false (f := Dt.same) hl)
    clear hl
    go_enter Try.func46, Try.ntmps46
    go_wp2
    go_ret
    exact ⟨ret_bool hf.out.symm, Below.refl _ _⟩

set_option maxHeartbeats 400000 in
theorem impl_WorldSame (xs ys : List Dt) (w : World) (x y : Value) (F G : List Nat) (hx : Arr w (DtR w) xs x F) (hy : Arr w (DtR w) ys y G) (hF : Under w.heap.size F) (hG : Under w.heap.size G) :
    Calls Try.prog 14 #[x, y] w fun e w' => e = .returned (.bool (sameBy Dt.same xs ys)) ∧ Below w.heap.size w w' := by
  have HX := Lib.hid hx
  have HY := Lib.hid hy
  obtain ⟨A, cap, rfl, hc1, hc2⟩ := hx.form
  obtain ⟨A', cap', rfl, hc3, hc4⟩ := hy.form
  clear hx hy
  have HF := Lib.hid hF
  have HG := Lib.hid hG
  clear hF hG
  go_enter Try.func14, Try.ntmps14
  go_wp2_with fail
  obtain ⟨W2, hW2⟩ : ∃ W2, W2 = w.alloc (.cells #[.func (.func 44) #[] #[]] 66) := ⟨_, rfl⟩
  have hB2 : Below w.heap.size w W2 := by rw [hW2]; exact (Below.refl _ _).alloc (Nat.le_refl _) _
  have k1 : Blk W2 w.heap.size 66 #[.func (.func 44) #[] #[]] := by rw [hW2]; exact Blk.new _ _ _
  rw [← hW2]
  clear hW2
  refine (EqualFunc_Dt xs ys W2 _ _ F G w.heap.size ((k1.cell 0).trans (by simp)) k1.lt (ArrDt.below HX.out hB2 HF.out) (ArrDt.below HY.out hB2 HG.out) (HF.out.mono hB2.size) (HG.out.mono hB2.size)).mono ?_
  rintro e w' ⟨rfl, hB'⟩
  have hB3 := hB2.trans (hB'.mono hB2.size)
  generalize hbb : sameBy Dt.same xs ys = bb
  have HBB := Lib.hid hbb
  clear hbb
  go_wp2
  go_ret
  exact ⟨ret_bool HBB.out.symm, hB3⟩
end Go.Proofs.Ytddjhneoacnkgaa
