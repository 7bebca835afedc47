/-
  Lemmas and contracts of functions: WorldSame of the program: equality of worlds, by slices.EqualFunc and two closures. Conditions: none. WorldSame of the reference: equality of worlds, by two loops. Conditions: none. What comes in as an argument (slices of structs, trees) lies in memory as the plain data say. Conditions: none. A slice of bytes that comes in as an argument lies in memory as the plain data say. Conditions: none.
-/
import Derived.Test.YtbejcgknjnhdpaaDoorFnWorldSamePa
import Derived.Test.YtbejcgknjnhdpaaDoorFnWorldSamePc
import Derived.Laws.EntriesVeiled
import Derived.Deep.RegionHeld3
import Derived.BigQuiet
import Derived.Deep.QuietTactic
import Derived.ProofKit
import Derived.ChangeArms
import Derived.Deep.Fields
import Derived.Test.YtbejcgknjnhdpaaDoorFnWorldSamePb
import Derived.Test.YtbejcgknjnhdpaaDoorChecked

set_option linter.unusedVariables false
set_option linter.unusedSimpArgs false

namespace Go.Proofs.YtbejcgknjnhdpaaDoor
open Go.RowKit

set_option maxRecDepth 100000 in
set_option maxHeartbeats 1600000 in
theorem EqualFunc_Kt (xs ys : List Kt) (w : World) (x y : Value) (F G : List Nat) (hx : Arr w (KtR w) xs x F) (hy : Arr w (KtR w) ys y G) (hF : Under w.heap.size F) (hG : Under w.heap.size G) :
    Calls Tryd.prog 36 #[x, y, .func (.func 32) #[] #[]] w fun e w' => e = .returned (.bool (sameBy Kt.same xs ys)) ∧ Below w.heap.size w w' := by
  have HX := Lib.hid hx
  have HY := Lib.hid hy
  obtain ⟨A, cap, rfl, hc1, hc2⟩ := hx.form
  obtain ⟨A', cap', rfl, hc3, hc4⟩ := hy.form
  clear hx hy
  have HF := Lib.hid hF
  have HG := Lib.hid hG
  clear hF hG
  by_cases hl : xs.length = ys.length
  · have tl : ((xs.length : Int) != (ys.length : Int)) = false := by rw [hl]; simp
    have hle1 : xs.length ≤ ys.length := by omega
    have hle2 : ys.length ≤ xs.length := by omega
    clear hl
    go_enter Tryd.func36, Tryd.ntmps36
    go_wp2
    go_loopw [17] (fun i wr => ∃ k : Nat, k ≤ xs.length ∧ i = .int .i64 k ∧ Hid (sameBy Kt.same xs ys = sameBy Kt.same (xs.drop k) (ys.drop k)) ∧ Below w.heap.size w wr) (fun i _ => xs.length - (intOf i).toNat)
    case atStart => exact ⟨0, Nat.zero_le _, rfl, rfl, Below.refl _ _⟩
    case round =>
      obtain ⟨k, hk, rfl, HT, hB⟩ := hrel
      by_cases hlt : k < xs.length
      · have hlt' : k < ys.length := by omega
        have hd := sameBy_drop (f := Kt.same) xs ys k hlt hlt'
        have HD := Lib.hid hd
        clear hd
        obtain ⟨b, off, cs, G_, rfl, hb, hcs, hvc, hG_⟩ := HX.out.get KtR_len hlt
        have hbl := HF.out b hb
        have hGFc := HF.out.sub hG_
        have hwc := hvc.below hB hGFc
        have hcsc := hcs.same (hB.block b hbl)
        obtain ⟨A1, cap1, rfl⟩ := KtR_form hvc
        have c0 := hcsc 0 _ rfl
        have c1 := hcsc 1 _ rfl
        have c2 := hcsc 2 _ rfl
        simp only [Nat.add_zero] at c0
        clear hcs hcsc hvc hG_
        have HV := Lib.hid hwc
        clear hwc
        have HG_ := Lib.hid hGFc
        clear hGFc
        obtain ⟨b2, off2, ds, G2, rfl, hb2, hds, hvd, hG2⟩ := HY.out.get KtR_len hlt'
        have hbl2 := HG.out b2 hb2
        have hGFd := HG.out.sub hG2
        have hwd := hvd.below hB hGFd
        have hcsd := hds.same (hB.block b2 hbl2)
        obtain ⟨A2, cap2, rfl⟩ := KtR_form hvd
        have d0 := hcsd 0 _ rfl
        have d1 := hcsd 1 _ rfl
        have d2 := hcsd 2 _ rfl
        simp only [Nat.add_zero] at d0
        clear hds hcsd hvd hG2
        have HV2 := Lib.hid hwd
        clear hwd
        have HG2 := Lib.hid hGFd
        clear hGFd
        have hblw := Nat.lt_of_lt_of_le hbl hB.size
        have hblw2 := Nat.lt_of_lt_of_le hbl2 hB.size
        go_wp2_with fail
        obtain ⟨W2, hW2⟩ : ∃ W2, W2 = (wr.alloc (.cells #[.string xs[k].name, .slice A1 xs[k].args.length cap1, .int .i64 xs[k].idx] 27)).alloc (.cells #[.string ys[k].name, .slice A2 ys[k].args.length cap2, .int .i64 ys[k].idx] 27) := ⟨_, rfl⟩
        have hb2 : Below wr.heap.size wr W2 := by rw [hW2]; exact ((Below.refl _ _).alloc (Nat.le_refl _) _).alloc (by simp) _
        rw [← hW2]
        clear hW2
        have hB2 := hB.trans (hb2.mono hB.size)
        refine (sameCtor_closure xs[k] ys[k] W2 _ _ G_ G2 (HV.out.below hb2 (HG_.out.mono hB.size)) (HV2.out.below hb2 (HG2.out.mono hB.size)) (HG_.out.mono hB2.size) (HG2.out.mono hB2.size)).mono ?_
        rintro e w' ⟨rfl, hB'⟩
        have hB3 := hB2.trans (hB'.mono hB2.size)
        cases hs : Kt.same xs[k] ys[k] with
        | true =>
          have hT2 : Hid (sameBy Kt.same xs ys = sameBy Kt.same (xs.drop (k + 1)) (ys.drop (k + 1))) := by have hd := HD.out; rw [hs, Bool.true_and] at hd; exact HT.out.trans hd
          clear hs
          go_wp2
          go_roundw
          case rel => exact ⟨k + 1, by omega, by go_num, hT2, hB3⟩
          case measure => simp [intOf]; omega
        | false =>
          have hf : Hid (sameBy Kt.same xs ys = false) := by have hd := HD.out; rw [hs, Bool.false_and] at hd; exact HT.out.trans hd
          clear hs
          go_wp2
          go_ret
          exact ⟨ret_bool hf.out.symm, hB3⟩
      · have hT := HT.out
        rw [List.drop_of_length_le (by omega), List.drop_of_length_le (by omega)] at hT
        have hf : Hid (sameBy Kt.same xs ys = true) := hT
        clear hT
        go_wp2
        go_ret
        exact ⟨ret_bool hf.out.symm, hB⟩
  · have tl : ((xs.length : Int) != (ys.length : Int)) = true := by rw [bne_iff_ne]; omega
    have hf := Lib.hid (sameBy_len_false (f := Kt.same) hl)
    clear hl
    go_enter Tryd.func36, Tryd.ntmps36
    go_wp2
    go_ret
    exact ⟨ret_bool hf.out.symm, Below.refl _ _⟩

def Dt.same (a b : Dt) : Bool := (a.name.toList == b.name.toList) && sameBy Kt.same a.ctors b.ctors
theorem Dt.same_iff (a b : Dt) : Dt.same a b = true ↔ a = b := by
  unfold Dt.same
  rw [Bool.and_eq_true, bytes_beq_iff, sameBy_iff Kt.same_iff]
  constructor
  · rintro ⟨h1, h2⟩; exact Dt.ext h1 h2
  · rintro rfl; exact ⟨rfl, rfl⟩

set_option maxRecDepth 100000 in
set_option maxHeartbeats 1600000 in
theorem sameData_closure (a b : Dt) (w : World) (cs ds : List Value) (F G : List Nat) (g : Nat) (hg : w.cell? ⟨g, 0, none⟩ = some (.func (.func 32) #[] #[])) (hgl : g < w.heap.size) (hv : DtR w a cs F) (hv' : DtR w b ds G) (hF : Under w.heap.size F) (hG : Under w.heap.size G) :
    Calls Tryd.prog 35 #[.agg cs.toArray, .agg ds.toArray, .pointer (some ⟨g, 0, none⟩)] w fun e w' => e = .returned (.bool (Dt.same a b)) ∧ Below w.heap.size w w' := by
  obtain ⟨kv, rfl, ha, hs⟩ := hv
  obtain ⟨kv', rfl, ha', hs'⟩ := hv'
  have HX := Lib.hid ha
  have HY := Lib.hid ha'
  obtain ⟨A, cap, rfl, hc1, hc2⟩ := ha.form
  obtain ⟨A', cap', rfl, hc3, hc4⟩ := ha'.form
  clear ha ha'
  have HF := Lib.hid hF
  have HG := Lib.hid hG
  clear hF hG
  cases e0 : (a.name.toList == b.name.toList) with
  | false =>
    have hf : Hid (Dt.same a b = false) := by unfold Dt.same; rw [e0]; rfl
    go_enter Tryd.func35, Tryd.ntmps35
    go_wp2
    go_ret
    exact ⟨ret_bool hf.out.symm, ((Below.refl _ _).alloc (Nat.le_refl _) _).alloc (by simp) _⟩
  | true =>
    have hsame : Dt.same a b = sameBy Kt.same a.ctors b.ctors := by unfold Dt.same; rw [e0, Bool.true_and]
    have HSame := Lib.hid hsame
    clear hsame
    go_enter Tryd.func35, Tryd.ntmps35
    go_wp2_with fail
    obtain ⟨W2, hW2⟩ : ∃ W2, W2 = (w.alloc (.cells #[.string a.name, .slice A a.ctors.length cap] 30)).alloc (.cells #[.string b.name, .slice A' b.ctors.length cap'] 30) := ⟨_, rfl⟩
    have hB2 : Below w.heap.size w W2 := by rw [hW2]; exact ((Below.refl _ _).alloc (Nat.le_refl _) _).alloc (by simp) _
    rw [← hW2]
    clear hW2
    refine (EqualFunc_Kt a.ctors b.ctors W2 _ _ F G (ArrKt.below HX.out hB2 HF.out) (ArrKt.below HY.out hB2 HG.out) (HF.out.mono hB2.size) (HG.out.mono hB2.size)).mono ?_
    rintro e w' ⟨rfl, hB'⟩
    have hB3 := hB2.trans (hB'.mono hB2.size)
    generalize sameBy Kt.same a.ctors b.ctors = bb at *
    go_wp2
    go_ret
    exact ⟨ret_bool HSame.out.symm, hB3⟩

set_option maxRecDepth 100000 in
set_option maxHeartbeats 1600000 in
theorem EqualFunc_Dt (xs ys : List Dt) (w : World) (x y : Value) (F G : List Nat) (g : Nat) (hg : w.cell? ⟨g, 0, none⟩ = some (.func (.func 32) #[] #[])) (hgl : g < w.heap.size) (hx : Arr w (DtR w) xs x F) (hy : Arr w (DtR w) ys y G) (hF : Under w.heap.size F) (hG : Under w.heap.size G) :
    Calls Tryd.prog 34 #[x, y, .func (.func 35) #[] #[.pointer (some ⟨g, 0, none⟩)]] w fun e w' => e = .returned (.bool (sameBy Dt.same xs ys)) ∧ Below w.heap.size w w' := by
  have HX := Lib.hid hx
  have HY := Lib.hid hy
  obtain ⟨A, cap, rfl, hc1, hc2⟩ := hx.form
  obtain ⟨A', cap', rfl, hc3, hc4⟩ := hy.form
  clear hx hy
  have HF := Lib.hid hF
  have HG := Lib.hid hG
  clear hF hG
  have HG0 := Lib.hid hg
  clear hg
  by_cases hl : xs.length = ys.length
  · have tl : ((xs.length : Int) != (ys.length : Int)) = false := by rw [hl]; simp
    have hle1 : xs.length ≤ ys.length := by omega
    have hle2 : ys.length ≤ xs.length := by omega
    clear hl
    go_enter Tryd.func34, Tryd.ntmps34
    go_wp2
    go_loopw [17] (fun i wr => ∃ k : Nat, k ≤ xs.length ∧ i = .int .i64 k ∧ Hid (sameBy Dt.same xs ys = sameBy Dt.same (xs.drop k) (ys.drop k)) ∧ Below w.heap.size w wr) (fun i _ => xs.length - (intOf i).toNat)
    case atStart => exact ⟨0, Nat.zero_le _, rfl, rfl, Below.refl _ _⟩
    case round =>
      obtain ⟨k, hk, rfl, HT, hB⟩ := hrel
      by_cases hlt : k < xs.length
      · have hlt' : k < ys.length := by omega
        have hd := sameBy_drop (f := Dt.same) xs ys k hlt hlt'
        have HD := Lib.hid hd
        clear hd
        obtain ⟨b, off, cs, G_, rfl, hb, hcs, hvc, hG_⟩ := HX.out.get DtR_len hlt
        have hbl := HF.out b hb
        have hGFc := HF.out.sub hG_
        have hwc := hvc.below hB hGFc
        have hcsc := hcs.same (hB.block b hbl)
        obtain ⟨A1, cap1, rfl⟩ := DtR_form hvc
        have c0 := hcsc 0 _ rfl
        have c1 := hcsc 1 _ rfl
        simp only [Nat.add_zero] at c0
        clear hcs hcsc hvc hG_
        have HV := Lib.hid hwc
        clear hwc
        have HG_ := Lib.hid hGFc
        clear hGFc
        obtain ⟨b2, off2, ds, G2, rfl, hb2, hds, hvd, hG2⟩ := HY.out.get DtR_len hlt'
        have hbl2 := HG.out b2 hb2
        have hGFd := HG.out.sub hG2
        have hwd := hvd.below hB hGFd
        have hcsd := hds.same (hB.block b2 hbl2)
        obtain ⟨A2, cap2, rfl⟩ := DtR_form hvd
        have d0 := hcsd 0 _ rfl
        have d1 := hcsd 1 _ rfl
        simp only [Nat.add_zero] at d0
        clear hds hcsd hvd hG2
        have HV2 := Lib.hid hwd
        clear hwd
        have HG2 := Lib.hid hGFd
        clear hGFd
        have hblw := Nat.lt_of_lt_of_le hbl hB.size
        have hblw2 := Nat.lt_of_lt_of_le hbl2 hB.size
        go_wp2_with fail
        obtain ⟨W2, hW2⟩ : ∃ W2, W2 = (wr.alloc (.cells #[.string xs[k].name, .slice A1 xs[k].ctors.length cap1] 30)).alloc (.cells #[.string ys[k].name, .slice A2 ys[k].ctors.length cap2] 30) := ⟨_, rfl⟩
        have hb2 : Below wr.heap.size wr W2 := by rw [hW2]; exact ((Below.refl _ _).alloc (Nat.le_refl _) _).alloc (by simp) _
        rw [← hW2]
        clear hW2
        have hB2 := hB.trans (hb2.mono hB.size)
        refine (sameData_closure xs[k] ys[k] W2 _ _ G_ G2 g ((hB2.cell (p := ⟨g, 0, none⟩) hgl).trans HG0.out) (Nat.lt_of_lt_of_le hgl hB2.size) (HV.out.below hb2 (HG_.out.mono hB.size)) (HV2.out.below hb2 (HG2.out.mono hB.size)) (HG_.out.mono hB2.size) (HG2.out.mono hB2.size)).mono ?_
        rintro e w' ⟨rfl, hB'⟩
        have hB3 := hB2.trans (hB'.mono hB2.size)
        cases hs : Dt.same xs[k] ys[k] with
        | true =>
          have hT2 : Hid (sameBy Dt.same xs ys = sameBy Dt.same (xs.drop (k + 1)) (ys.drop (k + 1))) := by have hd := HD.out; rw [hs, Bool.true_and] at hd; exact HT.out.trans hd
          clear hs
          go_wp2
          go_roundw
          case rel => exact ⟨k + 1, by omega, by go_num, hT2, hB3⟩
          case measure => simp [intOf]; omega
        | false =>
          have hf : Hid (sameBy Dt.same xs ys = false) := by have hd := HD.out; rw [hs, Bool.false_and] at hd; exact HT.out.trans hd
          clear hs
          go_wp2
          go_ret
          exact ⟨ret_bool hf.out.symm, hB3⟩
      · have hT := HT.out
        rw [List.drop_of_length_le (by omega), List.drop_of_length_le (by omega)] at hT
        have hf : Hid (sameBy Dt.same xs ys = true) := hT
        clear hT
        go_wp2
        go_ret
        exact ⟨ret_bool hf.out.symm, hB⟩
  · have tl : ((xs.length : Int) != (ys.length : Int)) = true := by rw [bne_iff_ne]; omega
    have hf := Lib.hid (sameBy_len_false (f := Dt.same) hl)
    clear hl
    go_enter Tryd.func34, Tryd.ntmps34
    go_wp2
    go_ret
    exact ⟨ret_bool hf.out.symm, Below.refl _ _⟩

set_option maxHeartbeats 400000 in
theorem impl_WorldSame (xs ys : List Dt) (w : World) (x y : Value) (F G : List Nat) (hx : Arr w (DtR w) xs x F) (hy : Arr w (DtR w) ys y G) (hF : Under w.heap.size F) (hG : Under w.heap.size G) :
    Calls Tryd.prog 16 #[x, y] w fun e w' => e = .returned (.bool (sameBy Dt.same xs ys)) ∧ Below w.heap.size w w' := by
  have HX := Lib.hid hx
  have HY := Lib.hid hy
  obtain ⟨A, cap, rfl, hc1, hc2⟩ := hx.form
  obtain ⟨A', cap', rfl, hc3, hc4⟩ := hy.form
  clear hx hy
  have HF := Lib.hid hF
  have HG := Lib.hid hG
  clear hF hG
  go_enter Tryd.func16, Tryd.ntmps16
  go_wp2_with fail
  obtain ⟨W2, hW2⟩ : ∃ W2, W2 = w.alloc (.cells #[.func (.func 32) #[] #[]] 57) := ⟨_, rfl⟩
  have hB2 : Below w.heap.size w W2 := by rw [hW2]; exact (Below.refl _ _).alloc (Nat.le_refl _) _
  have k1 : Blk W2 w.heap.size 57 #[.func (.func 32) #[] #[]] := by rw [hW2]; exact Blk.new _ _ _
  rw [← hW2]
  clear hW2
  refine (EqualFunc_Dt xs ys W2 _ _ F G w.heap.size ((k1.cell 0).trans (by simp)) k1.lt (ArrDt.below HX.out hB2 HF.out) (ArrDt.below HY.out hB2 HG.out) (HF.out.mono hB2.size) (HG.out.mono hB2.size)).mono ?_
  rintro e w' ⟨rfl, hB'⟩
  have hB3 := hB2.trans (hB'.mono hB2.size)
  generalize hbb : sameBy Dt.same xs ys = bb
  have HBB := Lib.hid hbb
  clear hbb
  go_wp2
  go_ret
  exact ⟨ret_bool HBB.out.symm, hB3⟩
end Go.Proofs.YtbejcgknjnhdpaaDoor

namespace Go.Proofs.YtbejcgknjnhdpaaDoor
open Go.RowKit

set_option maxRecDepth 100000 in
set_option maxHeartbeats 3200000 in
theorem spec_WorldSame (xs ys : List Dt) (w : World) (x y : Value) (F G : List Nat) (hx : Arr w (DtR w) xs x F) (hy : Arr w (DtR w) ys y G) (hF : Under w.heap.size F) (hG : Under w.heap.size G) :
    Calls Tryd.prog 17 #[x, y] w fun e w' => e = .returned (.bool (sameBy Dt.same xs ys)) ∧ Below w.heap.size w w' := by
  have HX := Lib.hid hx
  have HY := Lib.hid hy
  obtain ⟨A, cap, rfl, hc1, hc2⟩ := hx.form
  obtain ⟨A', cap', rfl, hc3, hc4⟩ := hy.form
  clear hx hy
  have HF := Lib.hid hF
  have HG := Lib.hid hG
  clear hF hG
  by_cases hl : xs.length = ys.length
  · have tl : ((xs.length : Int) != (ys.length : Int)) = false := by rw [hl]; simp
    have hle1 : xs.length ≤ ys.length := by omega
    have hle2 : ys.length ≤ xs.length := by omega
    clear hl
    go_enter Tryd.func17, Tryd.ntmps17
    go_wp2
    go_loopw [5] (fun i wr => ∃ k : Nat, k ≤ xs.length ∧ i = .int .i64 k ∧ Hid (sameBy Dt.same xs ys = sameBy Dt.same (xs.drop k) (ys.drop k)) ∧ Below w.heap.size w wr) (fun i _ => xs.length - (intOf i).toNat)
    case atStart => exact ⟨0, Nat.zero_le _, rfl, rfl, Below.refl _ _⟩
    case round =>
      obtain ⟨k, hk, rfl, HT, hBo⟩ := hrel
      obtain ⟨wo, rfl⟩ : ∃ wo : World, wo = wr := ⟨_, rfl⟩
      have HBo := Lib.hid hBo
      by_cases hlt : k < xs.length
      · have hlt' : k < ys.length := by omega
        have hi0 : (0 : Int) ≤ (k : Int) := by omega
        have hi1 : (k : Int) < (xs.length : Int) := by omega
        have hi2 : (k : Int) < (ys.length : Int) := by omega
        have hd := sameBy_drop (f := Dt.same) xs ys k hlt hlt'
        have HD := Lib.hid hd
        clear hd
        obtain ⟨b, off, cs, G1, rfl, hb, hcs, hv, hG1⟩ := HX.out.get DtR_len hlt
        obtain ⟨b2, off2, ds, G2, rfl, hb2, hds, hv2, hG2⟩ := HY.out.get DtR_len hlt'
        have hbl := HF.out b hb
        have hbl2 := HG.out b2 hb2
        have hGF1 := HF.out.sub hG1
        have hGF2 := HG.out.sub hG2
        obtain ⟨kv, rfl, ha, -⟩ := hv
        obtain ⟨kv2, rfl, ha2, -⟩ := hv2
        have HA := Lib.hid ha
        have HA2 := Lib.hid ha2
        obtain ⟨A1, cap1, rfl, hm1, hm2⟩ := ha.form
        obtain ⟨A2, cap2, rfl, hm3, hm4⟩ := ha2.form
        have HCS := Lib.hid hcs
        have HDS := Lib.hid hds
        have HGF1 := Lib.hid hGF1
        have HGF2 := Lib.hid hGF2
        have hcs1 := hcs.same (hBo.block b hbl)
        have hds1 := hds.same (hBo.block b2 hbl2)
        have c0 := hcs1 0 _ rfl
        have c1 := hcs1 1 _ rfl
        have d0 := hds1 0 _ rfl
        have d1 := hds1 1 _ rfl
        simp only [Nat.add_zero] at c0 d0
        clear hcs hds hcs1 hds1 ha ha2 hG1 hG2 hGF1 hGF2 hb hb2 hBo
        have HBq := Lib.hid (fun n => below_drewN HBo.out n)
        cases e0 : (xs[k].name.toList == ys[k].name.toList) with
        | false =>
          have hf : Hid (sameBy Dt.same xs ys = false) := by have hd := HD.out; unfold Dt.same at hd; rw [e0, Bool.false_and, Bool.false_and] at hd; exact HT.out.trans hd
          go_wp2_with fail
          go_quiet (fail)
          go_wp2
          go_ret
          exact ⟨ret_bool hf.out.symm, HBq.out _⟩
        | true =>
          have hs : Dt.same xs[k] ys[k] = sameBy Kt.same xs[k].ctors ys[k].ctors := by unfold Dt.same; rw [e0, Bool.true_and]
          have HSm := Lib.hid hs
          clear hs
          by_cases hlc : xs[k].ctors.length = ys[k].ctors.length
          · have tc : ((xs[k].ctors.length : Int) != (ys[k].ctors.length : Int)) = false := by rw [hlc]; simp
            have hq1 : xs[k].ctors.length ≤ ys[k].ctors.length := by omega
            have hq2 : ys[k].ctors.length ≤ xs[k].ctors.length := by omega
            clear hlc
            go_wp2_with fail
            go_quiet (fail)
            go_wp2
            go_loopw [6] (fun i wr => ∃ m : Nat, m ≤ xs[k].ctors.length ∧ i = .int .i64 m ∧ Hid (sameBy Kt.same xs[k].ctors ys[k].ctors = sameBy Kt.same (xs[k].ctors.drop m) (ys[k].ctors.drop m)) ∧ Below w.heap.size w wr) (fun i _ => xs[k].ctors.length - (intOf i).toNat)
            case atStart => exact ⟨0, Nat.zero_le _, rfl, rfl, HBq.out _⟩
            case round =>
              obtain ⟨m, hm, rfl, HT3, hB⟩ := hrel
              have hBs := hB.size
              have hcs1 := HCS.out.same (hB.block b hbl)
              have hds1 := HDS.out.same (hB.block b2 hbl2)
              clear c0 c1 d0 d1
              have c1 := hcs1 1 _ rfl
              have d1 := hds1 1 _ rfl
              clear hcs1 hds1
              by_cases hlm : m < xs[k].ctors.length
              · have hlm' : m < ys[k].ctors.length := by omega
                have hj0 : (0 : Int) ≤ (m : Int) := by omega
                have hj1 : (m : Int) < (xs[k].ctors.length : Int) := by omega
                have hj2 : (m : Int) < (ys[k].ctors.length : Int) := by omega
                have HD3 := Lib.hid (sameBy_drop (f := Kt.same) xs[k].ctors ys[k].ctors m hlm hlm')
                obtain ⟨b3, off3, es, G3, rfl, hb3, hes, hve, hG3⟩ := HA.out.get KtR_len hlm
                have hbl3 := HGF1.out b3 hb3
                have hGFe := HGF1.out.sub hG3
                have hwe := hve.below hB hGFe
                have hcse := hes.same (hB.block b3 hbl3)
                obtain ⟨A3, cap3, rfl⟩ := KtR_form hve
                have e0 := hcse 0 _ rfl
                have e1 := hcse 1 _ rfl
                have e2 := hcse 2 _ rfl
                simp only [Nat.add_zero] at e0
                clear hes hcse hve hG3
                have HV3 := Lib.hid hwe
                clear hwe
                have HG3 := Lib.hid hGFe
                clear hGFe
                obtain ⟨b4, off4, fs, G4, rfl, hb4, hfs, hvf, hG4⟩ := HA2.out.get KtR_len hlm'
                have hbl4 := HGF2.out b4 hb4
                have hGFf := HGF2.out.sub hG4
                have hwf := hvf.below hB hGFf
                have hcsf := hfs.same (hB.block b4 hbl4)
                obtain ⟨A4, cap4, rfl⟩ := KtR_form hvf
                have f0 := hcsf 0 _ rfl
                have f1 := hcsf 1 _ rfl
                have f2 := hcsf 2 _ rfl
                simp only [Nat.add_zero] at f0
                clear hfs hcsf hvf hG4
                have HV4 := Lib.hid hwf
                clear hwf
                have HG4 := Lib.hid hGFf
                clear hGFf
                cases hs : Kt.same xs[k].ctors[m] ys[k].ctors[m] with
                | true =>
                  have hT4 : Hid (sameBy Kt.same xs[k].ctors ys[k].ctors = sameBy Kt.same (xs[k].ctors.drop (m + 1)) (ys[k].ctors.drop (m + 1))) := by have hd := HD3.out; rw [hs, Bool.true_and] at hd; exact HT3.out.trans hd
                  have HS := Lib.hid hs
                  clear hs
                  go_wp2_with fail
                  have hkeep : ∀ U U' : World, (U.cell? ⟨b, off + k * 2 + 1, none⟩ = some (.slice (some ⟨b3, off3, none⟩) xs[k].ctors.length cap1) ∧ U.cell? ⟨b2, off2 + k * 2 + 1, none⟩ = some (.slice (some ⟨b4, off4, none⟩) ys[k].ctors.length cap2) ∧ U.cell? ⟨b3, off3 + m * 3, none⟩ = some (.string xs[k].ctors[m].name) ∧ U.cell? ⟨b3, off3 + m * 3 + 1, none⟩ = some (.slice A3 xs[k].ctors[m].args.length cap3) ∧ U.cell? ⟨b3, off3 + m * 3 + 2, none⟩ = some (.int .i64 xs[k].ctors[m].idx) ∧ U.cell? ⟨b4, off4 + m * 3, none⟩ = some (.string ys[k].ctors[m].name) ∧ U.cell? ⟨b4, off4 + m * 3 + 1, none⟩ = some (.slice A4 ys[k].ctors[m].args.length cap4) ∧ U.cell? ⟨b4, off4 + m * 3 + 2, none⟩ = some (.int .i64 ys[k].ctors[m].idx)) → Below U.heap.size U U' → wr.heap.size ≤ U.heap.size → (U'.cell? ⟨b, off + k * 2 + 1, none⟩ = some (.slice (some ⟨b3, off3, none⟩) xs[k].ctors.length cap1) ∧ U'.cell? ⟨b2, off2 + k * 2 + 1, none⟩ = some (.slice (some ⟨b4, off4, none⟩) ys[k].ctors.length cap2) ∧ U'.cell? ⟨b3, off3 + m * 3, none⟩ = some (.string xs[k].ctors[m].name) ∧ U'.cell? ⟨b3, off3 + m * 3 + 1, none⟩ = some (.slice A3 xs[k].ctors[m].args.length cap3) ∧ U'.cell? ⟨b3, off3 + m * 3 + 2, none⟩ = some (.int .i64 xs[k].ctors[m].idx) ∧ U'.cell? ⟨b4, off4 + m * 3, none⟩ = some (.string ys[k].ctors[m].name) ∧ U'.cell? ⟨b4, off4 + m * 3 + 1, none⟩ = some (.slice A4 ys[k].ctors[m].args.length cap4) ∧ U'.cell? ⟨b4, off4 + m * 3 + 2, none⟩ = some (.int .i64 ys[k].ctors[m].idx)) := fun U U' h hb hU => ⟨(hb.cell (Nat.lt_of_lt_of_le (show b < wr.heap.size from by omega) hU)).trans h.1, (hb.cell (Nat.lt_of_lt_of_le (show b2 < wr.heap.size from by omega) hU)).trans h.2.1, (hb.cell (Nat.lt_of_lt_of_le (show b3 < wr.heap.size from by omega) hU)).trans h.2.2.1, (hb.cell (Nat.lt_of_lt_of_le (show b3 < wr.heap.size from by omega) hU)).trans h.2.2.2.1, (hb.cell (Nat.lt_of_lt_of_le (show b3 < wr.heap.size from by omega) hU)).trans h.2.2.2.2.1, (hb.cell (Nat.lt_of_lt_of_le (show b4 < wr.heap.size from by omega) hU)).trans h.2.2.2.2.2.1, (hb.cell (Nat.lt_of_lt_of_le (show b4 < wr.heap.size from by omega) hU)).trans h.2.2.2.2.2.2.1, (hb.cell (Nat.lt_of_lt_of_le (show b4 < wr.heap.size from by omega) hU)).trans h.2.2.2.2.2.2.2⟩
                  have HKeep := Lib.hid hkeep
                  clear hkeep
                  go_region_held3 (fun w' => w'.cell? ⟨b, off + k * 2 + 1, none⟩ = some (.slice (some ⟨b3, off3, none⟩) xs[k].ctors.length cap1) ∧ w'.cell? ⟨b2, off2 + k * 2 + 1, none⟩ = some (.slice (some ⟨b4, off4, none⟩) ys[k].ctors.length cap2) ∧ w'.cell? ⟨b3, off3 + m * 3, none⟩ = some (.string xs[k].ctors[m].name) ∧ w'.cell? ⟨b3, off3 + m * 3 + 1, none⟩ = some (.slice A3 xs[k].ctors[m].args.length cap3) ∧ w'.cell? ⟨b3, off3 + m * 3 + 2, none⟩ = some (.int .i64 xs[k].ctors[m].idx) ∧ w'.cell? ⟨b4, off4 + m * 3, none⟩ = some (.string ys[k].ctors[m].name) ∧ w'.cell? ⟨b4, off4 + m * 3 + 1, none⟩ = some (.slice A4 ys[k].ctors[m].args.length cap4) ∧ w'.cell? ⟨b4, off4 + m * 3 + 2, none⟩ = some (.int .i64 ys[k].ctors[m].idx)) (first | assumption | (exact ⟨c1, d1, e0, e1, e2, f0, f1, f2⟩) | (exact HKeep.out wr.drew w' ⟨c1, d1, e0, e1, e2, f0, f1, f2⟩ hB' (Nat.le_refl _))) (first | (go_at_call 37; ((with_reducible refine (spec_l1SameCtor xs[k].ctors[m] ys[k].ctors[m] _ _ _ G3 G4 HV3.out.drew HV4.out.drew (Under.drew (HG3.out.mono hB.size)) (Under.drew (HG4.out.mono hB.size))).mono ?_); rintro e w' ⟨rfl, hB'⟩; rw [HS.out])))
                  have hB3 := hB.drew.trans (hB'.mono hB.size)
                  go_wp2
                  go_roundw
                  case rel => exact ⟨m + 1, by omega, by go_num, hT4, hB3⟩
                  case measure => simp [intOf]; omega
                | false =>
                  have hf : Hid (sameBy Dt.same xs ys = false) := by
                    have hd := HD3.out
                    rw [hs, Bool.false_and] at hd
                    have hd2 := HD.out
                    rw [HSm.out, HT3.out, hd, Bool.false_and] at hd2
                    exact HT.out.trans hd2
                  have HS := Lib.hid hs
                  clear hs
                  go_wp2_with fail
                  have hkeep : ∀ U U' : World, (U.cell? ⟨b, off + k * 2 + 1, none⟩ = some (.slice (some ⟨b3, off3, none⟩) xs[k].ctors.length cap1) ∧ U.cell? ⟨b2, off2 + k * 2 + 1, none⟩ = some (.slice (some ⟨b4, off4, none⟩) ys[k].ctors.length cap2) ∧ U.cell? ⟨b3, off3 + m * 3, none⟩ = some (.string xs[k].ctors[m].name) ∧ U.cell? ⟨b3, off3 + m * 3 + 1, none⟩ = some (.slice A3 xs[k].ctors[m].args.length cap3) ∧ U.cell? ⟨b3, off3 + m * 3 + 2, none⟩ = some (.int .i64 xs[k].ctors[m].idx) ∧ U.cell? ⟨b4, off4 + m * 3, none⟩ = some (.string ys[k].ctors[m].name) ∧ U.cell? ⟨b4, off4 + m * 3 + 1, none⟩ = some (.slice A4 ys[k].ctors[m].args.length cap4) ∧ U.cell? ⟨b4, off4 + m * 3 + 2, none⟩ = some (.int .i64 ys[k].ctors[m].idx)) → Below U.heap.size U U' → wr.heap.size ≤ U.heap.size → (U'.cell? ⟨b, off + k * 2 + 1, none⟩ = some (.slice (some ⟨b3, off3, none⟩) xs[k].ctors.length cap1) ∧ U'.cell? ⟨b2, off2 + k * 2 + 1, none⟩ = some (.slice (some ⟨b4, off4, none⟩) ys[k].ctors.length cap2) ∧ U'.cell? ⟨b3, off3 + m * 3, none⟩ = some (.string xs[k].ctors[m].name) ∧ U'.cell? ⟨b3, off3 + m * 3 + 1, none⟩ = some (.slice A3 xs[k].ctors[m].args.length cap3) ∧ U'.cell? ⟨b3, off3 + m * 3 + 2, none⟩ = some (.int .i64 xs[k].ctors[m].idx) ∧ U'.cell? ⟨b4, off4 + m * 3, none⟩ = some (.string ys[k].ctors[m].name) ∧ U'.cell? ⟨b4, off4 + m * 3 + 1, none⟩ = some (.slice A4 ys[k].ctors[m].args.length cap4) ∧ U'.cell? ⟨b4, off4 + m * 3 + 2, none⟩ = some (.int .i64 ys[k].ctors[m].idx)) := fun U U' h hb hU => ⟨(hb.cell (Nat.lt_of_lt_of_le (show b < wr.heap.size from by omega) hU)).trans h.1, (hb.cell (Nat.lt_of_lt_of_le (show b2 < wr.heap.size from by omega) hU)).trans h.2.1, (hb.cell (Nat.lt_of_lt_of_le (show b3 < wr.heap.size from by omega) hU)).trans h.2.2.1, (hb.cell (Nat.lt_of_lt_of_le (show b3 < wr.heap.size from by omega) hU)).trans h.2.2.2.1, (hb.cell (Nat.lt_of_lt_of_le (show b3 < wr.heap.size from by omega) hU)).trans h.2.2.2.2.1, (hb.cell (Nat.lt_of_lt_of_le (show b4 < wr.heap.size from by omega) hU)).trans h.2.2.2.2.2.1, (hb.cell (Nat.lt_of_lt_of_le (show b4 < wr.heap.size from by omega) hU)).trans h.2.2.2.2.2.2.1, (hb.cell (Nat.lt_of_lt_of_le (show b4 < wr.heap.size from by omega) hU)).trans h.2.2.2.2.2.2.2⟩
                  have HKeep := Lib.hid hkeep
                  clear hkeep
                  go_region_held3 (fun w' => w'.cell? ⟨b, off + k * 2 + 1, none⟩ = some (.slice (some ⟨b3, off3, none⟩) xs[k].ctors.length cap1) ∧ w'.cell? ⟨b2, off2 + k * 2 + 1, none⟩ = some (.slice (some ⟨b4, off4, none⟩) ys[k].ctors.length cap2) ∧ w'.cell? ⟨b3, off3 + m * 3, none⟩ = some (.string xs[k].ctors[m].name) ∧ w'.cell? ⟨b3, off3 + m * 3 + 1, none⟩ = some (.slice A3 xs[k].ctors[m].args.length cap3) ∧ w'.cell? ⟨b3, off3 + m * 3 + 2, none⟩ = some (.int .i64 xs[k].ctors[m].idx) ∧ w'.cell? ⟨b4, off4 + m * 3, none⟩ = some (.string ys[k].ctors[m].name) ∧ w'.cell? ⟨b4, off4 + m * 3 + 1, none⟩ = some (.slice A4 ys[k].ctors[m].args.length cap4) ∧ w'.cell? ⟨b4, off4 + m * 3 + 2, none⟩ = some (.int .i64 ys[k].ctors[m].idx)) (first | assumption | (exact ⟨c1, d1, e0, e1, e2, f0, f1, f2⟩) | (exact HKeep.out wr.drew w' ⟨c1, d1, e0, e1, e2, f0, f1, f2⟩ hB' (Nat.le_refl _))) (first | (go_at_call 37; ((with_reducible refine (spec_l1SameCtor xs[k].ctors[m] ys[k].ctors[m] _ _ _ G3 G4 HV3.out.drew HV4.out.drew (Under.drew (HG3.out.mono hB.size)) (Under.drew (HG4.out.mono hB.size))).mono ?_); rintro e w' ⟨rfl, hB'⟩; rw [HS.out])))
                  have hB3 := hB.drew.trans (hB'.mono hB.size)
                  go_wp2
                  go_ret
                  exact ⟨ret_bool hf.out.symm, hB3⟩
              · have hT5 : Hid (sameBy Dt.same xs ys = sameBy Dt.same (xs.drop (k + 1)) (ys.drop (k + 1))) := by
                  have h3 := HT3.out
                  rw [List.drop_of_length_le (by omega), List.drop_of_length_le (by omega)] at h3
                  have h4 : sameBy Kt.same xs[k].ctors ys[k].ctors = true := h3
                  have hd2 := HD.out
                  rw [HSm.out, h4, Bool.true_and] at hd2
                  exact HT.out.trans hd2
                go_wp2
                go_roundw
                case rel => exact ⟨k + 1, by omega, by go_num, hT5, hB⟩
                case measure => simp [intOf]; omega
          · have tc : ((xs[k].ctors.length : Int) != (ys[k].ctors.length : Int)) = true := by rw [bne_iff_ne]; omega
            have hf : Hid (sameBy Dt.same xs ys = false) := by have hd := HD.out; rw [HSm.out, sameBy_len_false hlc, Bool.false_and] at hd; exact HT.out.trans hd
            clear hlc
            go_wp2_with fail
            go_quiet (fail)
            go_wp2
            go_ret
            exact ⟨ret_bool hf.out.symm, HBq.out _⟩
      · have hT := HT.out
        rw [List.drop_of_length_le (by omega), List.drop_of_length_le (by omega)] at hT
        have hf : Hid (sameBy Dt.same xs ys = true) := hT
        clear hT
        go_wp2
        go_ret
        exact ⟨ret_bool hf.out.symm, HBo.out⟩
  · have tl : ((xs.length : Int) != (ys.length : Int)) = true := by rw [bne_iff_ne]; omega
    have hf := Lib.hid (sameBy_len_false (f := Dt.same) hl)
    clear hl
    go_enter Tryd.func17, Tryd.ntmps17
    go_wp2
    go_ret
    exact ⟨ret_bool hf.out.symm, Below.refl _ _⟩
end Go.Proofs.YtbejcgknjnhdpaaDoor

namespace Go.Proofs.YtbejcgknjnhdpaaDoor
open Go.ChangeShapes Go.WideShapes Go.ChangeAt Go.RowKit

section
variable {H : Type} {enc : TypeId × Value → H} {P : Program} {w : World} {base : Nat} {spare : Nat → Bool} {held : Bool}

theorem cell_lt {w : World} {a : Addr} {v : Value} (h : w.cell? a = some v) : a.block < w.heap.size := by
  rcases Nat.lt_or_ge a.block w.heap.size with hl | hl
  · exact hl
  · unfold World.cell? at h
    rw [Array.getElem?_eq_none hl] at h
    cases h

theorem open_Arr {α : Type} (R : α → List Value → List Nat → Prop) {t e : TypeId} {k n fuel : Nat} {cs : List Value} {x : DataW H × List MemPlace} (ht : P.underlying t = some (.slice e)) (hk : P.cellsOf e = k) (hk0 : 0 < k) (hf : fuel = n + 1)
    (hR : ∀ ds y, DataW.trod enc P w base spare held n e ds = some y → ds.length = k → ∃ a F, R a ds F ∧ Under w.heap.size F)
    (h : DataW.trod enc P w base spare held fuel t cs = some x) : ∃ xs v F, cs = [v] ∧ Arr w R xs v F ∧ Under w.heap.size F := by
  subst hf
  rcases DataW.trod_slice ht h with ⟨rfl, -⟩ | ⟨a, len, cap, elems, rest, m, hm, rfl, -, -, hl, hmax, hlen, hel, -, -⟩
  · exact ⟨[], _, [], rfl, Arr.nil, Under.nil _⟩
  · obtain rfl : n = m := by omega
    by_cases h0 : len = 0
    · subst h0
      exact ⟨[], _, [], rfl, ⟨_, _, rfl, hl, hmax, .inl ⟨rfl, rfl⟩⟩, Under.nil _⟩
    · have get : ∀ i, i < len → ∃ ds y, (∀ j, j < k → w.cell? (a.add (i * k + j)) = ds[j]?) ∧ ds.length = k ∧ DataW.trod enc P w base spare held n e ds = some y := fun i hi => by
        have h1 := hel i hi
        rw [List.getElem?_eq_getElem (by omega), Option.bind_eq_some_iff] at h1
        obtain ⟨ds, h2, h3⟩ := h1
        obtain ⟨-, h4, h5⟩ := World.cells?_some h2
        rw [hk] at h4 h5
        refine ⟨ds, _, fun j hj => ?_, h4, h3⟩
        rw [← h5 j hj]
        congr 1
        unfold Addr.add
        by_cases e1 : i * k = 0 <;> by_cases e2 : j = 0 <;> simp [e1, e2, Nat.add_assoc]
      obtain ⟨b, off, spot⟩ := a
      obtain ⟨ds0, y0, g1, g2, -⟩ := get 0 (by omega)
      have hc0 : w.cell? ⟨b, off, spot⟩ = some (ds0[0]'(by omega)) := by
        have := g1 0 hk0
        simpa [Addr.add, List.getElem?_eq_getElem (show 0 < ds0.length by omega)] using this
      have hspot : spot = none := by simpa using World.cell?_spot hc0
      subst hspot
      have hb : b < w.heap.size := cell_lt hc0
      have key : ∀ m, m ≤ len → ∃ (xs : List α) (cs : List Value) (F : List Nat), xs.length = m ∧ cs.length = m * k ∧ CellsAt w b off cs ∧ Flat R xs cs F ∧ Under w.heap.size F := by
        intro m
        induction m with
        | zero => intro _; exact ⟨[], [], [], rfl, by simp, fun j u hj => by simp at hj, ⟨rfl, rfl⟩, Under.nil _⟩
        | succ m ih =>
          intro hm
          obtain ⟨xs, cs, F, h1, h2, h3, h4, h5⟩ := ih (by omega)
          obtain ⟨ds, y, g1, g2, g3⟩ := get m (by omega)
          obtain ⟨z, G, r1, r2⟩ := hR ds y g3 g2
          refine ⟨xs ++ [z], cs ++ ds, F ++ G, by simp [h1], by simp [h2, g2, Nat.add_mul], h3.append (fun j u hj => ?_), h4.append (Flat.one r1), fun c hc => ?_⟩
          · have hjk : j < k := by rw [← g2]; exact (List.getElem?_eq_some_iff.1 hj).1
            have := g1 j hjk
            rw [hj, Addr.add_lit] at this
            rw [h2, ← this]
            congr 2
            omega
          · rcases List.mem_append.1 hc with hc | hc
            · exact h5 c hc
            · exact r2 c hc
      obtain ⟨xs, cs, F, h1, h2, h3, h4, h5⟩ := key len (Nat.le_refl _)
      refine ⟨xs, _, b :: F, rfl, ⟨_, _, by rw [h1], by omega, hmax, .inr ⟨b, off, cs, F, rfl, h3, h4, rfl⟩⟩, fun c hc => ?_⟩
      rcases List.mem_cons.1 hc with rfl | hc
      · exact hb
      · exact h5 c hc

theorem one_field {fs : Array Field} {n : Nat} {cs : List Value} {xs : List (DataW H × List MemPlace)}
    (hf : ∀ (i : Nat) (f : Field), fs[i]? = some f → DataW.trod enc P w base spare held n f.type ((cs.drop f.offset).take (P.cellsOf f.type)) = xs[i]?)
    (hone : Deep.oneCellFields P fs = true) (hxl : xs.length = fs.size) (i : Nat) (f : Field) (hi : fs[i]? = some f) (c : Value) (hc : cs[i]? = some c) :
    ∃ y, DataW.trod enc P w base spare held n f.type [c] = some y := by
  obtain ⟨h1, h2⟩ := Deep.hone_of hone i f hi
  have h := hf i f hi
  have hlt : i < fs.size := (Array.getElem?_eq_some_iff.1 hi).1
  rw [List.getElem?_eq_getElem (show i < xs.length by omega), h1, h2] at h
  obtain ⟨hlc, hcc⟩ := List.getElem?_eq_some_iff.1 hc
  rw [List.drop_eq_getElem_cons hlc, hcc] at h
  exact ⟨_, h⟩

theorem sub_field {fs : Array Field} {n : Nat} {cs : List Value} {xs : List (DataW H × List MemPlace)}
    (hf : ∀ (i : Nat) (f : Field), fs[i]? = some f → DataW.trod enc P w base spare held n f.type ((cs.drop f.offset).take (P.cellsOf f.type)) = xs[i]?)
    (hxl : xs.length = fs.size) (i : Nat) (f : Field) (hi : fs[i]? = some f) (k off : Nat) (hk : P.cellsOf f.type = k) (ho : f.offset = off) :
    ∃ y, DataW.trod enc P w base spare held n f.type ((cs.drop off).take k) = some y := by
  have h := hf i f hi
  have hlt : i < fs.size := (Array.getElem?_eq_some_iff.1 hi).1
  rw [List.getElem?_eq_getElem (show i < xs.length by omega), hk, ho] at h
  exact ⟨_, h⟩

theorem open_slice_arg {α : Type} (R : α → List Value → List Nat → Prop) {t e : TypeId} {k : Nat} {r : Reach} {b0 : Nat} {v : Value} {d : DataW H} {ps : List MemPlace} (ht : P.underlying t = some (.slice e)) (hk : P.cellsOf e = k) (hk0 : 0 < k)
    (hR : ∀ n ds y, DataW.trod enc P w base spare held n e ds = some y → ∃ a F, R a ds F ∧ Under w.heap.size F)
    (hval : Value.okWide P w r b0 t v) (h : DataW.Trod enc P w base spare held t v d ps) : ∃ xs F, Arr w R xs v F ∧ Under w.heap.size F := by
  obtain ⟨a, len, cap, rfl⟩ := okWide_slice ht hval
  obtain ⟨fuel, hf⟩ := h
  cases fuel with
  | zero => simp [DataW.trod] at hf
  | succ n =>
    obtain ⟨xs, v, F, hv, ha, hF⟩ := open_Arr R ht hk hk0 rfl (fun ds y hd _ => hR n ds y hd) hf
    have : v = .slice a len cap := by simpa [Value.cells] using hv.symm
    subst this
    exact ⟨xs, F, ha, hF⟩
end
end Go.Proofs.YtbejcgknjnhdpaaDoor

namespace Go.Proofs.YtbejcgknjnhdpaaDoor
open Go.ChangeShapes Go.WideShapes Go.ChangeAt Go.RowKit
set_option maxRecDepth 100000

theorem cellsOf_u8 : Tryd.prog.cellsOf 5 = 1 := by kernel_rfl
theorem open_By_cells {H : Type} {enc : TypeId × Value → H} {w : World} {base : Nat} {spare : Nat → Bool} {held : Bool} (fuel : Nat) (cs : List Value) (x : DataW H × List MemPlace)
    (h : DataW.trod enc Tryd.prog w base spare held fuel 5 cs = some x) : ∃ v F, ByR w v cs F ∧ Under w.heap.size F := by
  cases fuel with
  | zero => simp [DataW.trod] at h
  | succ n =>
  obtain ⟨i0, e0, -, e2⟩ := DataW.trod_int Tryd.underlying5 h
  have hw : IntKind.u8.min ≤ i0 ∧ i0 ≤ IntKind.u8.max := by simpa [Lit.wf] using e2
  have h0 : IntKind.u8.min = 0 := rfl
  have h1 : IntKind.u8.max = 255 := rfl
  exact ⟨i0, [], ⟨e0, rfl, by omega, by omega⟩, Under.nil _⟩
theorem open_Bytes {H : Type} {enc : TypeId × Value → H} {w : World} {base : Nat} {spare : Nat → Bool} {held : Bool} {r : Reach} {b0 : Nat} {v : Value} {d : DataW H} {ps : List MemPlace} (hval : Value.okWide Tryd.prog w r b0 22 v)
    (h : DataW.Trod enc Tryd.prog w base spare held 22 v d ps) : ∃ (x : List Int) (F : List Nat), Arr w (ByR w) x v F ∧ Under w.heap.size F :=
  open_slice_arg (ByR w) Tryd.underlying22 cellsOf_u8 (by decide) (fun n ds y hd => open_By_cells n ds y hd) hval h
end Go.Proofs.YtbejcgknjnhdpaaDoor
