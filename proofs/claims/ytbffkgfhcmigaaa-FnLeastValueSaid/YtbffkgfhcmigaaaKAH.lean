/-
  Lemmas and contracts of functions: A byte as a text; texts behind one another. Conditions: none. markText: a text for a number. Conditions: the number is between 0 and 1099511627776. markTypeS: every part is written anew. Conditions: the parts are no more than 1099511627776. markCtorS: every part is written anew. Conditions: the parts are no more than 1099511627776. markDataS: every part is written anew. Conditions: the parts are no more than 1099511627776. markPatternS: every part is written anew. Conditions: the parts are no more than 1099511627776. markVarTypeS: every part is written anew. Conditions: the parts are no more than 1099511627776. Sizes of trees. Conditions: none. What comes in as an argument (slices of structs, trees) lies in memory as the plain data say. Conditions: none. A Type that comes in as an argument lies in memory as the plain data say. Conditions: none. A Ctor that comes in as an argument lies in memory as the plain data say. Conditions: none. A Data that comes in as an argument lies in memory as the plain data say. Conditions: none. A Pattern that comes in as an argument lies in memory as the plain data say. Conditions: none.
-/
import Derived.Test.YtbffkgfhcmigaaaKAA
import Derived.Test.YtbffkgfhcmigaaaChecked
import Derived.Laws.BytesArg
import Derived.Test.YtbffkgfhcmigaaaKAC
import Derived.Deep.RegionWith
import Derived.ProofKit
import Derived.ChangeArms
import Derived.Deep.Fields

set_option linter.unusedVariables false
set_option linter.unusedSimpArgs false

namespace Go.Proofs.Ytbffkgfhcmigaaa
open Go.RowKit

theorem conv1 (w : World) (x : Int) : (convert 83 9 (.slice (some ⟨w.heap.size, 0, none⟩) 1 1)).run Try.prog (w.alloc (.cells #[.int .u8 x] 5)) = .ok (.string (strOfNums [x])) (w.alloc (.cells #[.int .u8 x] 5)) :=
  run_convert_bytes_arg _ 83 5 Try.underlying83 Try.underlying5 w.heap.size 0 1 1 [x] rfl (fun i hi => by
    obtain rfl : i = 0 := by omega
    exact ((Blk.new w 5 #[.int .u8 x]).cell 0).trans (by simp)) 9 Try.underlying9
theorem data_append (a b : ByteArray) : (a ++ b).data.toList = a.data.toList ++ b.data.toList := by rw [ByteArray.data_append, Array.toList_append]
theorem size_append (a b : ByteArray) : (a ++ b).size = a.size + b.size := by show (a ++ b).data.size = _; rw [ByteArray.data_append, Array.size_append]; rfl
theorem bytes_ext {a b : ByteArray} (h : a.data.toList = b.data.toList) : a = b := by
  cases a; cases b
  simp at h
  rw [h]
end Go.Proofs.Ytbffkgfhcmigaaa

namespace Go.Proofs.Ytbffkgfhcmigaaa
open Go.RowKit

/-- the decimal digits of a number, none for 0 -/
def digs (n : Nat) : List UInt8 := if h : n = 0 then [] else digs (n / 10) ++ [UInt8.ofNat (48 + n % 10)]
termination_by n
decreasing_by omega
def mtext (k : Int) : ByteArray := if k ≤ 0 then ⟨#[109, 48]⟩ else ⟨(109 :: digs k.toNat).toArray⟩
theorem digs_zero : digs 0 = [] := by rw [digs]; rfl
theorem digs_pos (n : Nat) (h : 0 < n) : digs n = digs (n / 10) ++ [UInt8.ofNat (48 + n % 10)] := by rw [digs, dif_neg (by omega)]
theorem digs_len (n : Nat) : (digs n).length ≤ n := by
  induction n using Nat.strongRecOn with
  | ind n ih =>
    rcases Nat.eq_zero_or_pos n with rfl | h
    · rw [digs_zero]; exact Nat.le_refl _
    · rw [digs_pos n h, List.length_append, List.length_singleton]
      have := ih (n / 10) (by omega)
      omega
theorem mtext_le (k : Int) (h0 : 0 ≤ k) (h : k ≤ 1099511627776) : (mtext k).size ≤ 9223372036854775807 := by
  unfold mtext
  split
  · decide
  · have := digs_len k.toNat
    show (109 :: digs k.toNat).toArray.size ≤ _
    rw [List.size_toArray, List.length_cons]
    omega
set_option maxRecDepth 100000 in
set_option maxHeartbeats 1600000 in
theorem markText_any (k : Int) (w : World) (h0 : 0 ≤ k) (hk : k ≤ 1099511627776) : Calls Try.prog 78 #[.int .i64 k] w fun e w' => e = .returned (.string (mtext k)) ∧ Below w.heap.size w w' := by
  by_cases hz : k ≤ 0
  · have hf : Hid (mtext k = ⟨#[109, 48]⟩) := by unfold Hid mtext; rw [if_pos hz]
    go_enter Try.func78, Try.ntmps78
    go_wp2
    go_ret
    exact ⟨by rw [hf.out]; rfl, Below.refl _ _⟩
  · obtain ⟨n0, rfl⟩ := Int.eq_ofNat_of_zero_le h0
    have hf : Hid (mtext (n0 : Int) = ⟨(109 :: digs n0).toArray⟩) := by unfold Hid mtext; rw [if_neg hz]; rfl
    have hkn : n0 ≤ 1099511627776 := by omega
    go_enter Try.func78, Try.ntmps78
    go_wp2
    go_loopw [0, 3] (fun kv ov wr => ∃ n : Nat, ∃ out : ByteArray, kv = .int .i64 n ∧ ov = .string out ∧ n ≤ 1099511627776 ∧ Hid (digs n0 = digs n ++ out.data.toList) ∧ out.size + n ≤ n0 ∧ Below w.heap.size w wr) (fun kv _ _ => (intOf kv).toNat)
    case atStart => exact ⟨n0, ⟨#[]⟩, rfl, rfl, hkn, (show digs n0 = digs n0 ++ [] from (List.append_nil _).symm), (by show 0 + n0 ≤ n0; omega), Below.refl _ _⟩
    case round =>
      obtain ⟨n, out, rfl, rfl, hn, HD, hsz, hB⟩ := hrel
      by_cases hlt : 0 < n
      · have g1 : (0 : Int) ≤ (n : Int) := by omega
        have g2 : (0 : Int) < (n : Int) := by omega
        have hcv := conv1 wr (48 + (n : Int) % 10)
        have hdg := digs_pos n hlt
        have HD2 : Hid (digs n0 = digs (n / 10) ++ (strOfNums [48 + (n : Int) % 10] ++ out).data.toList) := by
          unfold Hid
          rw [HD.out, hdg, data_append, strOfNums_data, List.append_assoc]
          congr 3
          all_goals (simp only [List.map_cons, List.map_nil]; try (congr 2; omega))
        have hs2 : (strOfNums [48 + (n : Int) % 10] ++ out).size + n / 10 ≤ n0 := by rw [size_append, strOfNums_size]; simp only [List.length_singleton]; omega
        have HS2 := Lib.hid hs2
        have hcat : (strOfNums [48 + (n : Int) % 10]).size + out.size ≤ 9223372036854775807 := by rw [strOfNums_size]; simp only [List.length_singleton]; omega
        clear hs2 hdg
        go_wp2
        go_roundw
        case rel => exact ⟨n / 10, _, (by go_num), rfl, by omega, HD2, HS2.out, hB.alloc hB.size _⟩
        case measure => (simp [intOf] <;> omega)
      · obtain rfl : n = 0 := by omega
        have hfin : mtext (n0 : Int) = ⟨#[109]⟩ ++ out := by
          rw [hf.out]
          refine bytes_ext ?_
          rw [data_append]
          have h := HD.out
          rw [digs_zero, List.nil_append] at h
          rw [← h]
          simp
        have HFin := Lib.hid hfin
        clear hfin
        go_wp2
        go_ret
        exact ⟨by rw [HFin.out]; rfl, hB⟩
end Go.Proofs.Ytbffkgfhcmigaaa

namespace Go.Proofs.Ytbffkgfhcmigaaa
open Go.RowKit

def cntTy (x : Ty) : Nat := 2
def mkTy (k : Int) (x : Ty) : Ty := ⟨k, k + 1⟩
theorem cntTy_def (x : Ty) : cntTy x = 2 := rfl

theorem cntsTy_len (xs : List Ty) : sumBy cntTy xs = 2 * xs.length := by
  induction xs with
  | nil => rfl
  | cons x xs ih => simp only [sumBy, ih, List.length_cons, cntTy]; omega

set_option maxRecDepth 100000 in
set_option maxHeartbeats 1600000 in
theorem markTypeS_any (xs : List Ty) (w : World) (v : Value) (F : List Nat) (k0 : Int) (h0 : 0 ≤ k0) (hk : k0 + (sumBy cntTy xs : Nat) ≤ 1099511627776) (hx : Arr w (TyR w) xs v F) (hfr : Free w F) (hf : Under w.heap.size F) :
    Calls Try.prog 130 #[v, .int .i64 k0] w fun e w' => e = .returned (.int .i64 (k0 + (sumBy cntTy xs : Nat))) ∧ Chg F w w' ∧ Arr w' (TyR w') (mkS mkTy cntTy k0 xs) v F ∧ Free w' F := by
  have HX := Lib.hid (And.intro hx (And.intro hfr (Chg.refl F w)))
  obtain ⟨A, cap, rfl, hc1, hc2⟩ := hx.form
  have HF := Lib.hid hf
  have HK := Lib.hid hk

  clear hx hfr hf hk
  go_enter Try.func130, Try.ntmps130
  go_wp2
  go_loopw [1, 5] (fun kv iv wr => ∃ i : Nat, ∃ m : Int, i ≤ xs.length ∧ iv = .int .i64 i ∧ kv = .int .i64 m ∧ 0 ≤ m ∧ Hid (m = k0 + (sumBy cntTy (xs.take i) : Nat)) ∧ Hid (Arr wr (TyR wr) (mkTo mkTy cntTy k0 xs i) (.slice A xs.length cap) F ∧ Free wr F ∧ Chg F w wr)) (fun _ iv _ => xs.length - (intOf iv).toNat)
  case atStart => exact ⟨0, k0, Nat.zero_le _, rfl, rfl, h0, (by simp [Hid, sumBy]), HX⟩
  case round =>
    obtain ⟨i, m, hi, rfl, rfl, hm0, HM, HR⟩ := hrel
    by_cases hlt : i < xs.length
    · have g1 : (0 : Int) ≤ (i : Int) := by omega
      have g2 : (i : Int) < (xs.length : Int) := by omega
      obtain ⟨b, off, c, F1, F2, F3, cap', hv, hFe, hc, hr, hfr2, hnb, hbl, hfz, hu2, hclose⟩ := HR.out.1.focus (fun w => TyR_len (w := w)) (fun w w' x cs G hk h => TyR.mono (w := w) (w' := w') x cs G hk h) HR.out.2.1 (HF.out.mono HR.out.2.2.size) (i := i) (by rw [mkTo_length]; exact hlt)
      obtain rfl : A = some ⟨b, off, none⟩ := by injection hv
      rw [mkTo_get hlt] at hr

      have hsum : m + (cntTy xs[i] : Nat) ≤ 1099511627776 := by
        have h1 := HM.out
        have h2 := HK.out
        have h3 := sumBy_take_le cntTy xs (i + 1)
        rw [sumBy_take_succ cntTy xs i hlt] at h3
        omega
      have HCl := Lib.hid hclose
      have HHv := Lib.hid hv
      have HFe := Lib.hid hFe
      clear hclose hv hFe
      obtain ⟨rfl, rfl⟩ := hr
      have hcd := cntTy_def xs[i]
      rw [hcd] at hsum
      have x0 : wr.cell? ⟨b, off + i * 2, none⟩ = some (.int .i64 xs[i].d) := hc 0 _ rfl
      have x1 : wr.cell? ⟨b, off + i * 2 + 1, none⟩ = some (.int .i64 xs[i].i) := hc 1 _ rfl
      clear hc
      have HFr2 := Lib.hid hfr2
      have HU2 := Lib.hid hu2
      have HNB := Lib.hid hnb
      have HCD := Lib.hid hcd
      clear hfr2 hu2 hnb hcd
      have HFz := Lib.hid hfz
      clear hfz
      have U0 := Lib.hid (Upd.refl b (off + i * 2) 2 [] wr)
      have K0 := Lib.hid (Kept.refl [] wr)
      have z0 : wr.frozen? ⟨b, off + i * 2, none⟩ = false := (U0.out.froz _).trans (HFz.out _)
      have z1 : wr.frozen? ⟨b, off + i * 2 + 1, none⟩ = false := (U0.out.froz _).trans (HFz.out _)
      have X0 := Lib.hid x0
      have X1 := Lib.hid x1
      have U1 := Lib.hid (U0.out.set (j := off + i * 2) (by omega) (by omega) (.int .i64 (m)))
      have Y0 := Lib.hid (show (wr.setCell ⟨b, off + i * 2, none⟩ (.int .i64 (m))).cell? ⟨b, off + i * 2, none⟩ = some (.int .i64 (m)) from World.cell?_setCell_same _ _ _ X0.out)
      have Y1 := Lib.hid ((World.cell?_setCell_other _ ⟨b, off + i * 2, none⟩ ⟨b, off + i * 2 + 1, none⟩ (.int .i64 (m)) (by intro e; injection e; omega)).trans X1.out)
      clear X0 X1
      have X0 := Y0
      have X1 := Y1
      clear Y0 Y1
      have U2 := Lib.hid (U1.out.set (j := off + i * 2 + 1) (by omega) (by omega) (.int .i64 (m + 1)))
      have Y0 := Lib.hid ((World.cell?_setCell_other _ ⟨b, off + i * 2 + 1, none⟩ ⟨b, off + i * 2, none⟩ (.int .i64 (m + 1)) (by intro e; injection e; omega)).trans X0.out)
      have Y1 := Lib.hid (show ((wr.setCell ⟨b, off + i * 2, none⟩ (.int .i64 (m))).setCell ⟨b, off + i * 2 + 1, none⟩ (.int .i64 (m + 1))).cell? ⟨b, off + i * 2 + 1, none⟩ = some (.int .i64 (m + 1)) from World.cell?_setCell_same _ _ _ X1.out)
      clear X0 X1
      have X0 := Y0
      have X1 := Y1
      clear Y0 Y1
      have hfin := HCl.out ((wr.setCell ⟨b, off + i * 2, none⟩ (.int .i64 (m))).setCell ⟨b, off + i * 2 + 1, none⟩ (.int .i64 (m + 1))) (mkTy m xs[i]) _ U2.out (CellsAt.cons X0.out (CellsAt.cons X1.out (CellsAt.nil _ _ _))) (⟨rfl, rfl⟩) (Free.nil _)
      have hst : (mkTo mkTy cntTy k0 xs i).set i (mkTy m xs[i]) = mkTo mkTy cntTy k0 xs (i + 1) := by rw [HM.out]; exact mkTo_step hlt
      rw [hst] at hfin
      clear hst
      have HFin := Lib.hid (And.intro hfin.1 (And.intro hfin.2.1 (HR.out.2.2.trans hfin.2.2)))
      clear hfin
      have HM2 : Hid (m + 1 + 1 = k0 + (sumBy cntTy (xs.take (i + 1)) : Nat)) := by
        have h1 := HM.out
        have h2 := HCD.out
        unfold Hid
        rw [sumBy_take_succ cntTy xs i hlt]
        omega
      go_wp2
      go_roundw
      case rel => exact ⟨i + 1, m + 1 + 1, by omega, by go_num, rfl, by omega, HM2, HFin.out⟩
      case measure => (simp [intOf] <;> omega)
    · have HEnd : Hid (Chg F w wr ∧ Arr wr (TyR wr) (mkS mkTy cntTy k0 xs) (.slice A xs.length cap) F ∧ Free wr F) := by
        have h := HR.out
        rw [mkTo_all k0 xs (by omega)] at h
        exact ⟨h.2.2, h.1, h.2.1⟩
      have hf : Hid (m = k0 + (sumBy cntTy xs : Nat)) := by
        have h := HM.out
        rwa [List.take_of_length_le (by omega)] at h
      go_wp2
      go_ret
      exact ⟨ret_int hf.out, HEnd.out⟩
end Go.Proofs.Ytbffkgfhcmigaaa

namespace Go.Proofs.Ytbffkgfhcmigaaa
open Go.RowKit

def cntKt (x : Kt) : Nat := 2 + sumBy cntTy x.args
def mkKt (k : Int) (x : Kt) : Kt := ⟨mtext (k), mkS mkTy cntTy (k + 1) x.args, k + 1 + (sumBy cntTy x.args : Nat)⟩
theorem cntKt_def (x : Kt) : cntKt x = 2 + sumBy cntTy x.args := rfl

set_option maxRecDepth 100000 in
set_option maxHeartbeats 1600000 in
theorem markCtorS_any (xs : List Kt) (w : World) (v : Value) (F : List Nat) (k0 : Int) (h0 : 0 ≤ k0) (hk : k0 + (sumBy cntKt xs : Nat) ≤ 1099511627776) (hx : Arr w (KtR w) xs v F) (hfr : Free w F) (hf : Under w.heap.size F) :
    Calls Try.prog 79 #[v, .int .i64 k0] w fun e w' => e = .returned (.int .i64 (k0 + (sumBy cntKt xs : Nat))) ∧ Chg F w w' ∧ Arr w' (KtR w') (mkS mkKt cntKt k0 xs) v F ∧ Free w' F := by
  have HX := Lib.hid (And.intro hx (And.intro hfr (Chg.refl F w)))
  obtain ⟨A, cap, rfl, hc1, hc2⟩ := hx.form
  have HF := Lib.hid hf
  have HK := Lib.hid hk

  clear hx hfr hf hk
  go_enter Try.func79, Try.ntmps79
  go_wp2
  go_loopw [1, 5] (fun kv iv wr => ∃ i : Nat, ∃ m : Int, i ≤ xs.length ∧ iv = .int .i64 i ∧ kv = .int .i64 m ∧ 0 ≤ m ∧ Hid (m = k0 + (sumBy cntKt (xs.take i) : Nat)) ∧ Hid (Arr wr (KtR wr) (mkTo mkKt cntKt k0 xs i) (.slice A xs.length cap) F ∧ Free wr F ∧ Chg F w wr)) (fun _ iv _ => xs.length - (intOf iv).toNat)
  case atStart => exact ⟨0, k0, Nat.zero_le _, rfl, rfl, h0, (by simp [Hid, sumBy]), HX⟩
  case round =>
    obtain ⟨i, m, hi, rfl, rfl, hm0, HM, HR⟩ := hrel
    by_cases hlt : i < xs.length
    · have g1 : (0 : Int) ≤ (i : Int) := by omega
      have g2 : (i : Int) < (xs.length : Int) := by omega
      obtain ⟨b, off, c, F1, F2, F3, cap', hv, hFe, hc, hr, hfr2, hnb, hbl, hfz, hu2, hclose⟩ := HR.out.1.focus (fun w => KtR_len (w := w)) (fun w w' x cs G hk h => KtR.mono (w := w) (w' := w') x cs G hk h) HR.out.2.1 (HF.out.mono HR.out.2.2.size) (i := i) (by rw [mkTo_length]; exact hlt)
      obtain rfl : A = some ⟨b, off, none⟩ := by injection hv
      rw [mkTo_get hlt] at hr

      have hsum : m + (cntKt xs[i] : Nat) ≤ 1099511627776 := by
        have h1 := HM.out
        have h2 := HK.out
        have h3 := sumBy_take_le cntKt xs (i + 1)
        rw [sumBy_take_succ cntKt xs i hlt] at h3
        omega
      have HCl := Lib.hid hclose
      have HHv := Lib.hid hv
      have HFe := Lib.hid hFe
      clear hclose hv hFe
      obtain ⟨kv, rfl, ha, hs0⟩ := hr
      obtain ⟨A1, cap1, rfl, -, -⟩ := ha.form
      have hcd := cntKt_def xs[i]
      rw [hcd] at hsum
      have x0 : wr.cell? ⟨b, off + i * 3, none⟩ = some (.string xs[i].name) := hc 0 _ rfl
      have x1 : wr.cell? ⟨b, off + i * 3 + 1, none⟩ = some (.slice A1 xs[i].args.length cap1) := hc 1 _ rfl
      have x2 : wr.cell? ⟨b, off + i * 3 + 2, none⟩ = some (.int .i64 xs[i].idx) := hc 2 _ rfl
      clear hc
      have HA := Lib.hid ha
      have HFr2 := Lib.hid hfr2
      have HU2 := Lib.hid hu2
      have HNB := Lib.hid hnb
      clear ha hfr2 hu2 hnb
      have hsn : (0 : Int) ≤ (sumBy cntTy xs[i].args : Nat) := by omega
      generalize hsg : sumBy cntTy xs[i].args = s at *
      have HSG := Lib.hid hsg
      have HCD := Lib.hid hcd
      clear hsg hcd
      have HFz := Lib.hid hfz
      clear hfz
      have U0 := Lib.hid (Upd.refl b (off + i * 3) 3 F2 wr)
      have K0 := Lib.hid (Kept.refl F2 wr)
      have z0 : wr.frozen? ⟨b, off + i * 3, none⟩ = false := (U0.out.froz _).trans (HFz.out _)
      have z2 : wr.frozen? ⟨b, off + i * 3 + 2, none⟩ = false := (U0.out.froz _).trans (HFz.out _)
      go_wp2_with fail
      refine (markText_any (m) _ (by omega) (by omega)).mono ?_
      rintro e v1 ⟨rfl, hb1⟩
      have hlE1 : b < wr.heap.size := Nat.lt_of_lt_of_le hbl U0.out.size
      have U1 := Lib.hid (U0.out.below hb1 hlE1)
      have K1 := Lib.hid (K0.out.step hb1 (HU2.out.mono U0.out.size))
      have y0 := (hb1.cell (p := ⟨b, off + i * 3, none⟩) hlE1).trans x0
      have y1 := (hb1.cell (p := ⟨b, off + i * 3 + 1, none⟩) hlE1).trans x1
      have y2 := (hb1.cell (p := ⟨b, off + i * 3 + 2, none⟩) hlE1).trans x2
      clear x0 x1 x2 z0 z2
      have x0 := y0
      have x1 := y1
      have x2 := y2
      clear y0 y1 y2
      have hb11 : b < v1.heap.size := Nat.lt_of_lt_of_le hbl U1.out.size
      have z0 : v1.frozen? ⟨b, off + i * 3, none⟩ = false := (U1.out.froz _).trans (HFz.out _)
      have z2 : v1.frozen? ⟨b, off + i * 3 + 2, none⟩ = false := (U1.out.froz _).trans (HFz.out _)
      clear hb1 hlE1
      go_wp2_with fail
      have U2 := Lib.hid (U1.out.set (j := off + i * 3) (by omega) (by omega) (.string (mtext (m))))
      have K2 := Lib.hid (K1.out.set (b := b) (j := off + i * 3) (u := .string (mtext (m))) HNB.out)
      have y0 : (v1.setCell ⟨b, off + i * 3, none⟩ (.string (mtext (m)))).cell? ⟨b, off + i * 3, none⟩ = some (.string (mtext (m))) := World.cell?_setCell_same _ _ _ x0
      have y1 := (World.cell?_setCell_other _ ⟨b, off + i * 3, none⟩ ⟨b, off + i * 3 + 1, none⟩ (.string (mtext (m))) (by intro e; injection e; omega)).trans x1
      have y2 := (World.cell?_setCell_other _ ⟨b, off + i * 3, none⟩ ⟨b, off + i * 3 + 2, none⟩ (.string (mtext (m))) (by intro e; injection e; omega)).trans x2
      clear x0 x1 x2
      have x0 := y0
      have x1 := y1
      have x2 := y2
      clear y0 y1 y2
      refine (markTypeS_any xs[i].args _ _ F2 (m + 1) (by omega) (by rw [HSG.out]; omega) (HA.out.mono K2.out (fun x _ cs G hk h => (fun w w' x cs G hk h => TyR.mono (w := w) (w' := w') x cs G hk h) _ _ x cs G hk h)) (HFr2.out.kept K2.out) (HU2.out.mono U2.out.size)).mono ?_
      rintro e v2 ⟨rfl, hg2, hm2, hfr2⟩
      have hlE2 : b < (v1.setCell ⟨b, off + i * 3, none⟩ (.string (mtext (m)))).heap.size := Nat.lt_of_lt_of_le hbl U2.out.size
      have U3 := Lib.hid (U2.out.sub hg2 HNB.out hlE2)
      have y0 := (World.cell?_of_block (w := (v1.setCell ⟨b, off + i * 3, none⟩ (.string (mtext (m))))) (a := ⟨b, off + i * 3, none⟩) (hg2.block b hlE2 HNB.out)).trans x0
      have y1 := (World.cell?_of_block (w := (v1.setCell ⟨b, off + i * 3, none⟩ (.string (mtext (m))))) (a := ⟨b, off + i * 3 + 1, none⟩) (hg2.block b hlE2 HNB.out)).trans x1
      have y2 := (World.cell?_of_block (w := (v1.setCell ⟨b, off + i * 3, none⟩ (.string (mtext (m))))) (a := ⟨b, off + i * 3 + 2, none⟩) (hg2.block b hlE2 HNB.out)).trans x2
      clear x0 x1 x2 z0 z2
      have x0 := y0
      have x1 := y1
      have x2 := y2
      clear y0 y1 y2
      have hb12 : b < v2.heap.size := Nat.lt_of_lt_of_le hbl U3.out.size
      have z0 : v2.frozen? ⟨b, off + i * 3, none⟩ = false := (U3.out.froz _).trans (HFz.out _)
      have z2 : v2.frozen? ⟨b, off + i * 3 + 2, none⟩ = false := (U3.out.froz _).trans (HFz.out _)
      have HMk := Lib.hid hm2
      have HFrk := Lib.hid hfr2
      have hgs2 := hg2.size
      clear hm2 hfr2 hg2 hlE2
      have K3 := Lib.hid (Kept.refl F2 v2)
      rw [HSG.out]
      have X0 := Lib.hid x0
      have X1 := Lib.hid x1
      have X2 := Lib.hid x2
      have U4 := Lib.hid (U3.out.set (j := off + i * 3 + 2) (by omega) (by omega) (.int .i64 (m + 1 + (s : Int))))
      have K4 := Lib.hid (K3.out.set (b := b) (j := off + i * 3 + 2) (u := .int .i64 (m + 1 + (s : Int))) HNB.out)
      have Y0 := Lib.hid ((World.cell?_setCell_other _ ⟨b, off + i * 3 + 2, none⟩ ⟨b, off + i * 3, none⟩ (.int .i64 (m + 1 + (s : Int))) (by intro e; injection e; omega)).trans X0.out)
      have Y1 := Lib.hid ((World.cell?_setCell_other _ ⟨b, off + i * 3 + 2, none⟩ ⟨b, off + i * 3 + 1, none⟩ (.int .i64 (m + 1 + (s : Int))) (by intro e; injection e; omega)).trans X1.out)
      have Y2 := Lib.hid (show (v2.setCell ⟨b, off + i * 3 + 2, none⟩ (.int .i64 (m + 1 + (s : Int)))).cell? ⟨b, off + i * 3 + 2, none⟩ = some (.int .i64 (m + 1 + (s : Int))) from World.cell?_setCell_same _ _ _ X2.out)
      clear X0 X1 X2
      have X0 := Y0
      have X1 := Y1
      have X2 := Y2
      clear Y0 Y1 Y2
      have hfin := HCl.out (v2.setCell ⟨b, off + i * 3 + 2, none⟩ (.int .i64 (m + 1 + (s : Int)))) (mkKt m xs[i]) _ U4.out (CellsAt.cons X0.out (CellsAt.cons X1.out (CellsAt.cons X2.out (CellsAt.nil _ _ _)))) (by obtain rfl := HSG.out; exact ⟨_, rfl, (HMk.out.mono K4.out (fun x _ cs G hk h => (fun w w' x cs G hk h => TyR.mono (w := w) (w' := w') x cs G hk h) _ _ x cs G hk h)), mtext_le _ (by omega) (by omega)⟩) (HFrk.out.kept K4.out)
      have hst : (mkTo mkKt cntKt k0 xs i).set i (mkKt m xs[i]) = mkTo mkKt cntKt k0 xs (i + 1) := by rw [HM.out]; exact mkTo_step hlt
      rw [hst] at hfin
      clear hst
      have HFin := Lib.hid (And.intro hfin.1 (And.intro hfin.2.1 (HR.out.2.2.trans hfin.2.2)))
      clear hfin
      have HM2 : Hid (m + 1 + (s : Int) + 1 = k0 + (sumBy cntKt (xs.take (i + 1)) : Nat)) := by
        have h1 := HM.out
        have h2 := HCD.out
        unfold Hid
        rw [sumBy_take_succ cntKt xs i hlt]
        omega
      go_wp2
      go_roundw
      case rel => exact ⟨i + 1, m + 1 + (s : Int) + 1, by omega, by go_num, rfl, by omega, HM2, HFin.out⟩
      case measure => (simp [intOf] <;> omega)
    · have HEnd : Hid (Chg F w wr ∧ Arr wr (KtR wr) (mkS mkKt cntKt k0 xs) (.slice A xs.length cap) F ∧ Free wr F) := by
        have h := HR.out
        rw [mkTo_all k0 xs (by omega)] at h
        exact ⟨h.2.2, h.1, h.2.1⟩
      have hf : Hid (m = k0 + (sumBy cntKt xs : Nat)) := by
        have h := HM.out
        rwa [List.take_of_length_le (by omega)] at h
      go_wp2
      go_ret
      exact ⟨ret_int hf.out, HEnd.out⟩
end Go.Proofs.Ytbffkgfhcmigaaa

namespace Go.Proofs.Ytbffkgfhcmigaaa
open Go.RowKit

def cntDt (x : Dt) : Nat := 1 + sumBy cntKt x.ctors
def mkDt (k : Int) (x : Dt) : Dt := ⟨mtext (k), mkS mkKt cntKt (k + 1) x.ctors⟩
theorem cntDt_def (x : Dt) : cntDt x = 1 + sumBy cntKt x.ctors := rfl

theorem cntsTy_le (xs : List Ty) : sumBy cntTy xs ≤ 16 * Ty.sizes xs := by
  rw [cntsTy_len]; unfold Ty.sizes; omega
theorem cntsKt_le (xs : List Kt) : sumBy cntKt xs ≤ 16 * Kt.sizes xs := by
  induction xs with
  | nil => exact Nat.zero_le _
  | cons x xs ih =>
    have h := cntsTy_le x.args
    have h1 : cntKt x = 2 + sumBy cntTy x.args := rfl
    have h2 : Kt.size x = x.name.size + Ty.sizes x.args := rfl
    simp only [Kt.sizes, sumBy, List.length_cons] at ih ⊢
    omega
theorem cntsDt_le (xs : List Dt) : sumBy cntDt xs ≤ 16 * Dt.sizes xs := by
  induction xs with
  | nil => exact Nat.zero_le _
  | cons x xs ih =>
    have h := cntsKt_le x.ctors
    have h1 : cntDt x = 1 + sumBy cntKt x.ctors := rfl
    have h2 : Dt.size x = x.name.size + Kt.sizes x.ctors := rfl
    simp only [Dt.sizes, sumBy, List.length_cons] at ih ⊢
    omega

set_option maxRecDepth 100000 in
set_option maxHeartbeats 1600000 in
theorem markDataS_any (xs : List Dt) (w : World) (v : Value) (F : List Nat) (k0 : Int) (h0 : 0 ≤ k0) (hk : k0 + (sumBy cntDt xs : Nat) ≤ 1099511627776) (hx : Arr w (DtR w) xs v F) (hfr : Free w F) (hf : Under w.heap.size F) :
    Calls Try.prog 25 #[v, .int .i64 k0] w fun e w' => e = .returned (.int .i64 (k0 + (sumBy cntDt xs : Nat))) ∧ Chg F w w' ∧ Arr w' (DtR w') (mkS mkDt cntDt k0 xs) v F ∧ Free w' F := by
  have HX := Lib.hid (And.intro hx (And.intro hfr (Chg.refl F w)))
  obtain ⟨A, cap, rfl, hc1, hc2⟩ := hx.form
  have HF := Lib.hid hf
  have HK := Lib.hid hk

  clear hx hfr hf hk
  go_enter Try.func25, Try.ntmps25
  go_wp2
  go_loopw [1, 5] (fun kv iv wr => ∃ i : Nat, ∃ m : Int, i ≤ xs.length ∧ iv = .int .i64 i ∧ kv = .int .i64 m ∧ 0 ≤ m ∧ Hid (m = k0 + (sumBy cntDt (xs.take i) : Nat)) ∧ Hid (Arr wr (DtR wr) (mkTo mkDt cntDt k0 xs i) (.slice A xs.length cap) F ∧ Free wr F ∧ Chg F w wr)) (fun _ iv _ => xs.length - (intOf iv).toNat)
  case atStart => exact ⟨0, k0, Nat.zero_le _, rfl, rfl, h0, (by simp [Hid, sumBy]), HX⟩
  case round =>
    obtain ⟨i, m, hi, rfl, rfl, hm0, HM, HR⟩ := hrel
    by_cases hlt : i < xs.length
    · have g1 : (0 : Int) ≤ (i : Int) := by omega
      have g2 : (i : Int) < (xs.length : Int) := by omega
      obtain ⟨b, off, c, F1, F2, F3, cap', hv, hFe, hc, hr, hfr2, hnb, hbl, hfz, hu2, hclose⟩ := HR.out.1.focus (fun w => DtR_len (w := w)) (fun w w' x cs G hk h => DtR.mono (w := w) (w' := w') x cs G hk h) HR.out.2.1 (HF.out.mono HR.out.2.2.size) (i := i) (by rw [mkTo_length]; exact hlt)
      obtain rfl : A = some ⟨b, off, none⟩ := by injection hv
      rw [mkTo_get hlt] at hr

      have hsum : m + (cntDt xs[i] : Nat) ≤ 1099511627776 := by
        have h1 := HM.out
        have h2 := HK.out
        have h3 := sumBy_take_le cntDt xs (i + 1)
        rw [sumBy_take_succ cntDt xs i hlt] at h3
        omega
      have HCl := Lib.hid hclose
      have HHv := Lib.hid hv
      have HFe := Lib.hid hFe
      clear hclose hv hFe
      obtain ⟨kv, rfl, ha, hs0⟩ := hr
      obtain ⟨A1, cap1, rfl, -, -⟩ := ha.form
      have hcd := cntDt_def xs[i]
      rw [hcd] at hsum
      have x0 : wr.cell? ⟨b, off + i * 2, none⟩ = some (.string xs[i].name) := hc 0 _ rfl
      have x1 : wr.cell? ⟨b, off + i * 2 + 1, none⟩ = some (.slice A1 xs[i].ctors.length cap1) := hc 1 _ rfl
      clear hc
      have HA := Lib.hid ha
      have HFr2 := Lib.hid hfr2
      have HU2 := Lib.hid hu2
      have HNB := Lib.hid hnb
      clear ha hfr2 hu2 hnb
      have hsn : (0 : Int) ≤ (sumBy cntKt xs[i].ctors : Nat) := by omega
      generalize hsg : sumBy cntKt xs[i].ctors = s at *
      have HSG := Lib.hid hsg
      have HCD := Lib.hid hcd
      clear hsg hcd
      have HFz := Lib.hid hfz
      clear hfz
      have U0 := Lib.hid (Upd.refl b (off + i * 2) 2 F2 wr)
      have K0 := Lib.hid (Kept.refl F2 wr)
      have z0 : wr.frozen? ⟨b, off + i * 2, none⟩ = false := (U0.out.froz _).trans (HFz.out _)
      go_wp2_with fail
      refine (markText_any (m) _ (by omega) (by omega)).mono ?_
      rintro e v1 ⟨rfl, hb1⟩
      have hlE1 : b < wr.heap.size := Nat.lt_of_lt_of_le hbl U0.out.size
      have U1 := Lib.hid (U0.out.below hb1 hlE1)
      have K1 := Lib.hid (K0.out.step hb1 (HU2.out.mono U0.out.size))
      have y0 := (hb1.cell (p := ⟨b, off + i * 2, none⟩) hlE1).trans x0
      have y1 := (hb1.cell (p := ⟨b, off + i * 2 + 1, none⟩) hlE1).trans x1
      clear x0 x1 z0
      have x0 := y0
      have x1 := y1
      clear y0 y1
      have hb11 : b < v1.heap.size := Nat.lt_of_lt_of_le hbl U1.out.size
      have z0 : v1.frozen? ⟨b, off + i * 2, none⟩ = false := (U1.out.froz _).trans (HFz.out _)
      clear hb1 hlE1
      go_wp2_with fail
      have U2 := Lib.hid (U1.out.set (j := off + i * 2) (by omega) (by omega) (.string (mtext (m))))
      have K2 := Lib.hid (K1.out.set (b := b) (j := off + i * 2) (u := .string (mtext (m))) HNB.out)
      have y0 : (v1.setCell ⟨b, off + i * 2, none⟩ (.string (mtext (m)))).cell? ⟨b, off + i * 2, none⟩ = some (.string (mtext (m))) := World.cell?_setCell_same _ _ _ x0
      have y1 := (World.cell?_setCell_other _ ⟨b, off + i * 2, none⟩ ⟨b, off + i * 2 + 1, none⟩ (.string (mtext (m))) (by intro e; injection e; omega)).trans x1
      clear x0 x1
      have x0 := y0
      have x1 := y1
      clear y0 y1
      refine (markCtorS_any xs[i].ctors _ _ F2 (m + 1) (by omega) (by rw [HSG.out]; omega) (HA.out.mono K2.out (fun x _ cs G hk h => (fun w w' x cs G hk h => KtR.mono (w := w) (w' := w') x cs G hk h) _ _ x cs G hk h)) (HFr2.out.kept K2.out) (HU2.out.mono U2.out.size)).mono ?_
      rintro e v2 ⟨rfl, hg2, hm2, hfr2⟩
      have hlE2 : b < (v1.setCell ⟨b, off + i * 2, none⟩ (.string (mtext (m)))).heap.size := Nat.lt_of_lt_of_le hbl U2.out.size
      have U3 := Lib.hid (U2.out.sub hg2 HNB.out hlE2)
      have y0 := (World.cell?_of_block (w := (v1.setCell ⟨b, off + i * 2, none⟩ (.string (mtext (m))))) (a := ⟨b, off + i * 2, none⟩) (hg2.block b hlE2 HNB.out)).trans x0
      have y1 := (World.cell?_of_block (w := (v1.setCell ⟨b, off + i * 2, none⟩ (.string (mtext (m))))) (a := ⟨b, off + i * 2 + 1, none⟩) (hg2.block b hlE2 HNB.out)).trans x1
      clear x0 x1 z0
      have x0 := y0
      have x1 := y1
      clear y0 y1
      have hb12 : b < v2.heap.size := Nat.lt_of_lt_of_le hbl U3.out.size
      have z0 : v2.frozen? ⟨b, off + i * 2, none⟩ = false := (U3.out.froz _).trans (HFz.out _)
      have HMk := Lib.hid hm2
      have HFrk := Lib.hid hfr2
      have hgs2 := hg2.size
      clear hm2 hfr2 hg2 hlE2
      have K3 := Lib.hid (Kept.refl F2 v2)
      rw [HSG.out]
      have X0 := Lib.hid x0
      have X1 := Lib.hid x1
      have hfin := HCl.out v2 (mkDt m xs[i]) _ U3.out (CellsAt.cons X0.out (CellsAt.cons X1.out (CellsAt.nil _ _ _))) (by obtain rfl := HSG.out; exact ⟨_, rfl, (HMk.out.mono K3.out (fun x _ cs G hk h => (fun w w' x cs G hk h => KtR.mono (w := w) (w' := w') x cs G hk h) _ _ x cs G hk h)), mtext_le _ (by omega) (by omega)⟩) (HFrk.out.kept K3.out)
      have hst : (mkTo mkDt cntDt k0 xs i).set i (mkDt m xs[i]) = mkTo mkDt cntDt k0 xs (i + 1) := by rw [HM.out]; exact mkTo_step hlt
      rw [hst] at hfin
      clear hst
      have HFin := Lib.hid (And.intro hfin.1 (And.intro hfin.2.1 (HR.out.2.2.trans hfin.2.2)))
      clear hfin
      have HM2 : Hid (m + 1 + (s : Int) = k0 + (sumBy cntDt (xs.take (i + 1)) : Nat)) := by
        have h1 := HM.out
        have h2 := HCD.out
        unfold Hid
        rw [sumBy_take_succ cntDt xs i hlt]
        omega
      go_wp2
      go_roundw
      case rel => exact ⟨i + 1, m + 1 + (s : Int), by omega, by go_num, rfl, by omega, HM2, HFin.out⟩
      case measure => (simp [intOf] <;> omega)
    · have HEnd : Hid (Chg F w wr ∧ Arr wr (DtR wr) (mkS mkDt cntDt k0 xs) (.slice A xs.length cap) F ∧ Free wr F) := by
        have h := HR.out
        rw [mkTo_all k0 xs (by omega)] at h
        exact ⟨h.2.2, h.1, h.2.1⟩
      have hf : Hid (m = k0 + (sumBy cntDt xs : Nat)) := by
        have h := HM.out
        rwa [List.take_of_length_le (by omega)] at h
      go_wp2
      go_ret
      exact ⟨ret_int hf.out, HEnd.out⟩
end Go.Proofs.Ytbffkgfhcmigaaa

namespace Go.Proofs.Ytbffkgfhcmigaaa
open Go.RowKit

mutual
def cntP : P → Nat
  | ⟨_, _, _, _, _, ks⟩ => 5 + cntsP ks
def cntsP : List P → Nat
  | [] => 0
  | x :: xs => cntP x + cntsP xs
end
mutual
def mkP (k : Int) : P → P
  | ⟨_, _, _, _, _, ks⟩ => ⟨k, k + 1, k + 1 + 1, k + 1 + 1 + 1, k + 1 + 1 + 1 + 1, mksP (k + 1 + 1 + 1 + 1 + 1) ks⟩
def mksP (k : Int) : List P → List P
  | [] => []
  | x :: xs => mkP k x :: mksP (k + cntP x) xs
end
theorem cntsP_eq (xs : List P) : cntsP xs = sumBy cntP xs := by
  induction xs with
  | nil => rfl
  | cons x xs ih => rw [cntsP, sumBy, ih]
theorem mksP_eq (xs : List P) : ∀ k, mksP k xs = mkS mkP cntP k xs := by
  induction xs with
  | nil => intro k; rfl
  | cons x xs ih => intro k; rw [mksP, mkS, ih]
theorem cntP_def (x : P) : cntP x = 5 + sumBy cntP x.ks := by obtain ⟨a0, a1, a2, a3, a4, ks⟩ := x; rw [cntP, cntsP_eq]
theorem mkP_def (k : Int) (x : P) : mkP k x = ⟨k, k + 1, k + 1 + 1, k + 1 + 1 + 1, k + 1 + 1 + 1 + 1, mkS mkP cntP (k + 1 + 1 + 1 + 1 + 1) x.ks⟩ := by obtain ⟨a0, a1, a2, a3, a4, ks⟩ := x; rw [mkP, mksP_eq]

theorem cntsP_le (xs : List P) : sumBy cntP xs ≤ 16 * P.sizes xs := by
  have h : ∀ x : P, cntP x ≤ 16 + 16 * x.size := P.ind fun a0 a1 a2 a3 a4 ks ih => by
    have h2 : ∀ l : List P, (∀ x ∈ l, cntP x ≤ 16 + 16 * x.size) → sumBy cntP l ≤ 16 * P.sizes l := by
      intro l
      induction l with
      | nil => intro _; exact Nat.zero_le _
      | cons x l ih2 =>
        intro hl
        have h3 := ih2 fun y hy => hl y (by simp [hy])
        have h4 := hl x (by simp)
        simp only [sumBy, P.sizes]
        omega
    have h5 := h2 ks ih
    rw [cntP_def]
    show _ ≤ 16 + 16 * P.sizes ks
    simp only
    omega
  induction xs with
  | nil => exact Nat.zero_le _
  | cons x xs ih =>
    have h1 := h x
    simp only [sumBy, P.sizes]
    omega

/-- contract of markPatternS at a node's parts -/
def MarkP (x : P) : Prop := ∀ (w : World) (v : Value) (F : List Nat) (k0 : Int), 0 ≤ k0 → k0 + (sumBy cntP x.ks : Nat) ≤ 1099511627776 → Arr w (PR w) x.ks v F → Free w F → Under w.heap.size F →
  Calls Try.prog 81 #[v, .int .i64 k0] w fun e w' => e = .returned (.int .i64 (k0 + (sumBy cntP x.ks : Nat))) ∧ Chg F w w' ∧ Arr w' (PR w') (mkS mkP cntP k0 x.ks) v F ∧ Free w' F

set_option maxRecDepth 100000 in
set_option maxHeartbeats 1600000 in
theorem markPatternS_of (xs : List P) (ih : ∀ x ∈ xs, MarkP x) (w : World) (v : Value) (F : List Nat) (k0 : Int) (h0 : 0 ≤ k0) (hk : k0 + (sumBy cntP xs : Nat) ≤ 1099511627776) (hx : Arr w (PR w) xs v F) (hfr : Free w F) (hf : Under w.heap.size F) :
    Calls Try.prog 81 #[v, .int .i64 k0] w fun e w' => e = .returned (.int .i64 (k0 + (sumBy cntP xs : Nat))) ∧ Chg F w w' ∧ Arr w' (PR w') (mkS mkP cntP k0 xs) v F ∧ Free w' F := by
  have HX := Lib.hid (And.intro hx (And.intro hfr (Chg.refl F w)))
  obtain ⟨A, cap, rfl, hc1, hc2⟩ := hx.form
  have HF := Lib.hid hf
  have HK := Lib.hid hk
  have IH := Lib.hid ih
  clear hx hfr hf hk ih
  go_enter Try.func81, Try.ntmps81
  go_wp2
  go_loopw [1, 5] (fun kv iv wr => ∃ i : Nat, ∃ m : Int, i ≤ xs.length ∧ iv = .int .i64 i ∧ kv = .int .i64 m ∧ 0 ≤ m ∧ Hid (m = k0 + (sumBy cntP (xs.take i) : Nat)) ∧ Hid (Arr wr (PR wr) (mkTo mkP cntP k0 xs i) (.slice A xs.length cap) F ∧ Free wr F ∧ Chg F w wr)) (fun _ iv _ => xs.length - (intOf iv).toNat)
  case atStart => exact ⟨0, k0, Nat.zero_le _, rfl, rfl, h0, (by simp [Hid, sumBy]), HX⟩
  case round =>
    obtain ⟨i, m, hi, rfl, rfl, hm0, HM, HR⟩ := hrel
    by_cases hlt : i < xs.length
    · have g1 : (0 : Int) ≤ (i : Int) := by omega
      have g2 : (i : Int) < (xs.length : Int) := by omega
      obtain ⟨b, off, c, F1, F2, F3, cap', hv, hFe, hc, hr, hfr2, hnb, hbl, hfz, hu2, hclose⟩ := HR.out.1.focus (fun w => PR_len (w := w)) (fun w w' x cs G hk h => PR.mono (w := w) (w' := w') x cs G hk h) HR.out.2.1 (HF.out.mono HR.out.2.2.size) (i := i) (by rw [mkTo_length]; exact hlt)
      obtain rfl : A = some ⟨b, off, none⟩ := by injection hv
      rw [mkTo_get hlt] at hr

      have hsum : m + (cntP xs[i] : Nat) ≤ 1099511627776 := by
        have h1 := HM.out
        have h2 := HK.out
        have h3 := sumBy_take_le cntP xs (i + 1)
        rw [sumBy_take_succ cntP xs i hlt] at h3
        omega
      have HCl := Lib.hid hclose
      have HHv := Lib.hid hv
      have HFe := Lib.hid hFe
      clear hclose hv hFe
      obtain ⟨kv, rfl, ha⟩ := (PR_iff _ _ _).1 hr
      obtain ⟨A1, cap1, rfl, -, -⟩ := ha.form
      have hcd := cntP_def xs[i]
      rw [hcd] at hsum
      have x0 : wr.cell? ⟨b, off + i * 6, none⟩ = some (.int .i64 xs[i].op) := hc 0 _ rfl
      have x1 : wr.cell? ⟨b, off + i * 6 + 1, none⟩ = some (.int .i64 xs[i].ct) := hc 1 _ rfl
      have x2 : wr.cell? ⟨b, off + i * 6 + 2, none⟩ = some (.int .i64 xs[i].n) := hc 2 _ rfl
      have x3 : wr.cell? ⟨b, off + i * 6 + 3, none⟩ = some (.int .i64 xs[i].m) := hc 3 _ rfl
      have x4 : wr.cell? ⟨b, off + i * 6 + 4, none⟩ = some (.int .i64 xs[i].va) := hc 4 _ rfl
      have x5 : wr.cell? ⟨b, off + i * 6 + 5, none⟩ = some (.slice A1 xs[i].ks.length cap1) := hc 5 _ rfl
      clear hc
      have HA := Lib.hid ha
      have HFr2 := Lib.hid hfr2
      have HU2 := Lib.hid hu2
      have HNB := Lib.hid hnb
      clear ha hfr2 hu2 hnb
      have hsn : (0 : Int) ≤ (sumBy cntP xs[i].ks : Nat) := by omega
      generalize hsg : sumBy cntP xs[i].ks = s at *
      have HSG := Lib.hid hsg
      have HCD := Lib.hid hcd
      clear hsg hcd
      have HFz := Lib.hid hfz
      clear hfz
      have U0 := Lib.hid (Upd.refl b (off + i * 6) 6 F2 wr)
      have K0 := Lib.hid (Kept.refl F2 wr)
      have z0 : wr.frozen? ⟨b, off + i * 6, none⟩ = false := (U0.out.froz _).trans (HFz.out _)
      have z1 : wr.frozen? ⟨b, off + i * 6 + 1, none⟩ = false := (U0.out.froz _).trans (HFz.out _)
      have z2 : wr.frozen? ⟨b, off + i * 6 + 2, none⟩ = false := (U0.out.froz _).trans (HFz.out _)
      have z3 : wr.frozen? ⟨b, off + i * 6 + 3, none⟩ = false := (U0.out.froz _).trans (HFz.out _)
      have z4 : wr.frozen? ⟨b, off + i * 6 + 4, none⟩ = false := (U0.out.froz _).trans (HFz.out _)
      go_wp2_with fail
      have U1 := Lib.hid (U0.out.set (j := off + i * 6) (by omega) (by omega) (.int .i64 (m)))
      have K1 := Lib.hid (K0.out.set (b := b) (j := off + i * 6) (u := .int .i64 (m)) HNB.out)
      have y0 : (wr.setCell ⟨b, off + i * 6, none⟩ (.int .i64 (m))).cell? ⟨b, off + i * 6, none⟩ = some (.int .i64 (m)) := World.cell?_setCell_same _ _ _ x0
      have y1 := (World.cell?_setCell_other _ ⟨b, off + i * 6, none⟩ ⟨b, off + i * 6 + 1, none⟩ (.int .i64 (m)) (by intro e; injection e; omega)).trans x1
      have y2 := (World.cell?_setCell_other _ ⟨b, off + i * 6, none⟩ ⟨b, off + i * 6 + 2, none⟩ (.int .i64 (m)) (by intro e; injection e; omega)).trans x2
      have y3 := (World.cell?_setCell_other _ ⟨b, off + i * 6, none⟩ ⟨b, off + i * 6 + 3, none⟩ (.int .i64 (m)) (by intro e; injection e; omega)).trans x3
      have y4 := (World.cell?_setCell_other _ ⟨b, off + i * 6, none⟩ ⟨b, off + i * 6 + 4, none⟩ (.int .i64 (m)) (by intro e; injection e; omega)).trans x4
      have y5 := (World.cell?_setCell_other _ ⟨b, off + i * 6, none⟩ ⟨b, off + i * 6 + 5, none⟩ (.int .i64 (m)) (by intro e; injection e; omega)).trans x5
      clear x0 x1 x2 x3 x4 x5
      have x0 := y0
      have x1 := y1
      have x2 := y2
      have x3 := y3
      have x4 := y4
      have x5 := y5
      clear y0 y1 y2 y3 y4 y5
      have U2 := Lib.hid (U1.out.set (j := off + i * 6 + 1) (by omega) (by omega) (.int .i64 (m + 1)))
      have K2 := Lib.hid (K1.out.set (b := b) (j := off + i * 6 + 1) (u := .int .i64 (m + 1)) HNB.out)
      have y0 := (World.cell?_setCell_other _ ⟨b, off + i * 6 + 1, none⟩ ⟨b, off + i * 6, none⟩ (.int .i64 (m + 1)) (by intro e; injection e; omega)).trans x0
      have y1 : ((wr.setCell ⟨b, off + i * 6, none⟩ (.int .i64 (m))).setCell ⟨b, off + i * 6 + 1, none⟩ (.int .i64 (m + 1))).cell? ⟨b, off + i * 6 + 1, none⟩ = some (.int .i64 (m + 1)) := World.cell?_setCell_same _ _ _ x1
      have y2 := (World.cell?_setCell_other _ ⟨b, off + i * 6 + 1, none⟩ ⟨b, off + i * 6 + 2, none⟩ (.int .i64 (m + 1)) (by intro e; injection e; omega)).trans x2
      have y3 := (World.cell?_setCell_other _ ⟨b, off + i * 6 + 1, none⟩ ⟨b, off + i * 6 + 3, none⟩ (.int .i64 (m + 1)) (by intro e; injection e; omega)).trans x3
      have y4 := (World.cell?_setCell_other _ ⟨b, off + i * 6 + 1, none⟩ ⟨b, off + i * 6 + 4, none⟩ (.int .i64 (m + 1)) (by intro e; injection e; omega)).trans x4
      have y5 := (World.cell?_setCell_other _ ⟨b, off + i * 6 + 1, none⟩ ⟨b, off + i * 6 + 5, none⟩ (.int .i64 (m + 1)) (by intro e; injection e; omega)).trans x5
      clear x0 x1 x2 x3 x4 x5
      have x0 := y0
      have x1 := y1
      have x2 := y2
      have x3 := y3
      have x4 := y4
      have x5 := y5
      clear y0 y1 y2 y3 y4 y5
      have U3 := Lib.hid (U2.out.set (j := off + i * 6 + 2) (by omega) (by omega) (.int .i64 (m + 1 + 1)))
      have K3 := Lib.hid (K2.out.set (b := b) (j := off + i * 6 + 2) (u := .int .i64 (m + 1 + 1)) HNB.out)
      have y0 := (World.cell?_setCell_other _ ⟨b, off + i * 6 + 2, none⟩ ⟨b, off + i * 6, none⟩ (.int .i64 (m + 1 + 1)) (by intro e; injection e; omega)).trans x0
      have y1 := (World.cell?_setCell_other _ ⟨b, off + i * 6 + 2, none⟩ ⟨b, off + i * 6 + 1, none⟩ (.int .i64 (m + 1 + 1)) (by intro e; injection e; omega)).trans x1
      have y2 : (((wr.setCell ⟨b, off + i * 6, none⟩ (.int .i64 (m))).setCell ⟨b, off + i * 6 + 1, none⟩ (.int .i64 (m + 1))).setCell ⟨b, off + i * 6 + 2, none⟩ (.int .i64 (m + 1 + 1))).cell? ⟨b, off + i * 6 + 2, none⟩ = some (.int .i64 (m + 1 + 1)) := World.cell?_setCell_same _ _ _ x2
      have y3 := (World.cell?_setCell_other _ ⟨b, off + i * 6 + 2, none⟩ ⟨b, off + i * 6 + 3, none⟩ (.int .i64 (m + 1 + 1)) (by intro e; injection e; omega)).trans x3
      have y4 := (World.cell?_setCell_other _ ⟨b, off + i * 6 + 2, none⟩ ⟨b, off + i * 6 + 4, none⟩ (.int .i64 (m + 1 + 1)) (by intro e; injection e; omega)).trans x4
      have y5 := (World.cell?_setCell_other _ ⟨b, off + i * 6 + 2, none⟩ ⟨b, off + i * 6 + 5, none⟩ (.int .i64 (m + 1 + 1)) (by intro e; injection e; omega)).trans x5
      clear x0 x1 x2 x3 x4 x5
      have x0 := y0
      have x1 := y1
      have x2 := y2
      have x3 := y3
      have x4 := y4
      have x5 := y5
      clear y0 y1 y2 y3 y4 y5
      have U4 := Lib.hid (U3.out.set (j := off + i * 6 + 3) (by omega) (by omega) (.int .i64 (m + 1 + 1 + 1)))
      have K4 := Lib.hid (K3.out.set (b := b) (j := off + i * 6 + 3) (u := .int .i64 (m + 1 + 1 + 1)) HNB.out)
      have y0 := (World.cell?_setCell_other _ ⟨b, off + i * 6 + 3, none⟩ ⟨b, off + i * 6, none⟩ (.int .i64 (m + 1 + 1 + 1)) (by intro e; injection e; omega)).trans x0
      have y1 := (World.cell?_setCell_other _ ⟨b, off + i * 6 + 3, none⟩ ⟨b, off + i * 6 + 1, none⟩ (.int .i64 (m + 1 + 1 + 1)) (by intro e; injection e; omega)).trans x1
      have y2 := (World.cell?_setCell_other _ ⟨b, off + i * 6 + 3, none⟩ ⟨b, off + i * 6 + 2, none⟩ (.int .i64 (m + 1 + 1 + 1)) (by intro e; injection e; omega)).trans x2
      have y3 : ((((wr.setCell ⟨b, off + i * 6, none⟩ (.int .i64 (m))).setCell ⟨b, off + i * 6 + 1, none⟩ (.int .i64 (m + 1))).setCell ⟨b, off + i * 6 + 2, none⟩ (.int .i64 (m + 1 + 1))).setCell ⟨b, off + i * 6 + 3, none⟩ (.int .i64 (m + 1 + 1 + 1))).cell? ⟨b, off + i * 6 + 3, none⟩ = some (.int .i64 (m + 1 + 1 + 1)) := World.cell?_setCell_same _ _ _ x3
      have y4 := (World.cell?_setCell_other _ ⟨b, off + i * 6 + 3, none⟩ ⟨b, off + i * 6 + 4, none⟩ (.int .i64 (m + 1 + 1 + 1)) (by intro e; injection e; omega)).trans x4
      have y5 := (World.cell?_setCell_other _ ⟨b, off + i * 6 + 3, none⟩ ⟨b, off + i * 6 + 5, none⟩ (.int .i64 (m + 1 + 1 + 1)) (by intro e; injection e; omega)).trans x5
      clear x0 x1 x2 x3 x4 x5
      have x0 := y0
      have x1 := y1
      have x2 := y2
      have x3 := y3
      have x4 := y4
      have x5 := y5
      clear y0 y1 y2 y3 y4 y5
      have U5 := Lib.hid (U4.out.set (j := off + i * 6 + 4) (by omega) (by omega) (.int .i64 (m + 1 + 1 + 1 + 1)))
      have K5 := Lib.hid (K4.out.set (b := b) (j := off + i * 6 + 4) (u := .int .i64 (m + 1 + 1 + 1 + 1)) HNB.out)
      have y0 := (World.cell?_setCell_other _ ⟨b, off + i * 6 + 4, none⟩ ⟨b, off + i * 6, none⟩ (.int .i64 (m + 1 + 1 + 1 + 1)) (by intro e; injection e; omega)).trans x0
      have y1 := (World.cell?_setCell_other _ ⟨b, off + i * 6 + 4, none⟩ ⟨b, off + i * 6 + 1, none⟩ (.int .i64 (m + 1 + 1 + 1 + 1)) (by intro e; injection e; omega)).trans x1
      have y2 := (World.cell?_setCell_other _ ⟨b, off + i * 6 + 4, none⟩ ⟨b, off + i * 6 + 2, none⟩ (.int .i64 (m + 1 + 1 + 1 + 1)) (by intro e; injection e; omega)).trans x2
      have y3 := (World.cell?_setCell_other _ ⟨b, off + i * 6 + 4, none⟩ ⟨b, off + i * 6 + 3, none⟩ (.int .i64 (m + 1 + 1 + 1 + 1)) (by intro e; injection e; omega)).trans x3
      have y4 : (((((wr.setCell ⟨b, off + i * 6, none⟩ (.int .i64 (m))).setCell ⟨b, off + i * 6 + 1, none⟩ (.int .i64 (m + 1))).setCell ⟨b, off + i * 6 + 2, none⟩ (.int .i64 (m + 1 + 1))).setCell ⟨b, off + i * 6 + 3, none⟩ (.int .i64 (m + 1 + 1 + 1))).setCell ⟨b, off + i * 6 + 4, none⟩ (.int .i64 (m + 1 + 1 + 1 + 1))).cell? ⟨b, off + i * 6 + 4, none⟩ = some (.int .i64 (m + 1 + 1 + 1 + 1)) := World.cell?_setCell_same _ _ _ x4
      have y5 := (World.cell?_setCell_other _ ⟨b, off + i * 6 + 4, none⟩ ⟨b, off + i * 6 + 5, none⟩ (.int .i64 (m + 1 + 1 + 1 + 1)) (by intro e; injection e; omega)).trans x5
      clear x0 x1 x2 x3 x4 x5
      have x0 := y0
      have x1 := y1
      have x2 := y2
      have x3 := y3
      have x4 := y4
      have x5 := y5
      clear y0 y1 y2 y3 y4 y5
      refine (IH.out _ (List.getElem_mem hlt) _ _ F2 (m + 1 + 1 + 1 + 1 + 1) (by omega) (by rw [HSG.out]; omega) (HA.out.mono K5.out (fun x _ cs G hk h => (fun w w' x cs G hk h => PR.mono (w := w) (w' := w') x cs G hk h) _ _ x cs G hk h)) (HFr2.out.kept K5.out) (HU2.out.mono U5.out.size)).mono ?_
      rintro e v1 ⟨rfl, hg1, hm1, hfr1⟩
      have hlE1 : b < (((((wr.setCell ⟨b, off + i * 6, none⟩ (.int .i64 (m))).setCell ⟨b, off + i * 6 + 1, none⟩ (.int .i64 (m + 1))).setCell ⟨b, off + i * 6 + 2, none⟩ (.int .i64 (m + 1 + 1))).setCell ⟨b, off + i * 6 + 3, none⟩ (.int .i64 (m + 1 + 1 + 1))).setCell ⟨b, off + i * 6 + 4, none⟩ (.int .i64 (m + 1 + 1 + 1 + 1))).heap.size := Nat.lt_of_lt_of_le hbl U5.out.size
      have U6 := Lib.hid (U5.out.sub hg1 HNB.out hlE1)
      have y0 := (World.cell?_of_block (w := (((((wr.setCell ⟨b, off + i * 6, none⟩ (.int .i64 (m))).setCell ⟨b, off + i * 6 + 1, none⟩ (.int .i64 (m + 1))).setCell ⟨b, off + i * 6 + 2, none⟩ (.int .i64 (m + 1 + 1))).setCell ⟨b, off + i * 6 + 3, none⟩ (.int .i64 (m + 1 + 1 + 1))).setCell ⟨b, off + i * 6 + 4, none⟩ (.int .i64 (m + 1 + 1 + 1 + 1)))) (a := ⟨b, off + i * 6, none⟩) (hg1.block b hlE1 HNB.out)).trans x0
      have y1 := (World.cell?_of_block (w := (((((wr.setCell ⟨b, off + i * 6, none⟩ (.int .i64 (m))).setCell ⟨b, off + i * 6 + 1, none⟩ (.int .i64 (m + 1))).setCell ⟨b, off + i * 6 + 2, none⟩ (.int .i64 (m + 1 + 1))).setCell ⟨b, off + i * 6 + 3, none⟩ (.int .i64 (m + 1 + 1 + 1))).setCell ⟨b, off + i * 6 + 4, none⟩ (.int .i64 (m + 1 + 1 + 1 + 1)))) (a := ⟨b, off + i * 6 + 1, none⟩) (hg1.block b hlE1 HNB.out)).trans x1
      have y2 := (World.cell?_of_block (w := (((((wr.setCell ⟨b, off + i * 6, none⟩ (.int .i64 (m))).setCell ⟨b, off + i * 6 + 1, none⟩ (.int .i64 (m + 1))).setCell ⟨b, off + i * 6 + 2, none⟩ (.int .i64 (m + 1 + 1))).setCell ⟨b, off + i * 6 + 3, none⟩ (.int .i64 (m + 1 + 1 + 1))).setCell ⟨b, off + i * 6 + 4, none⟩ (.int .i64 (m + 1 + 1 + 1 + 1)))) (a := ⟨b, off + i * 6 + 2, none⟩) (hg1.block b hlE1 HNB.out)).trans x2
      have y3 := (World.cell?_of_block (w := (((((wr.setCell ⟨b, off + i * 6, none⟩ (.int .i64 (m))).setCell ⟨b, off + i * 6 + 1, none⟩ (.int .i64 (m + 1))).setCell ⟨b, off + i * 6 + 2, none⟩ (.int .i64 (m + 1 + 1))).setCell ⟨b, off + i * 6 + 3, none⟩ (.int .i64 (m + 1 + 1 + 1))).setCell ⟨b, off + i * 6 + 4, none⟩ (.int .i64 (m + 1 + 1 + 1 + 1)))) (a := ⟨b, off + i * 6 + 3, none⟩) (hg1.block b hlE1 HNB.out)).trans x3
      have y4 := (World.cell?_of_block (w := (((((wr.setCell ⟨b, off + i * 6, none⟩ (.int .i64 (m))).setCell ⟨b, off + i * 6 + 1, none⟩ (.int .i64 (m + 1))).setCell ⟨b, off + i * 6 + 2, none⟩ (.int .i64 (m + 1 + 1))).setCell ⟨b, off + i * 6 + 3, none⟩ (.int .i64 (m + 1 + 1 + 1))).setCell ⟨b, off + i * 6 + 4, none⟩ (.int .i64 (m + 1 + 1 + 1 + 1)))) (a := ⟨b, off + i * 6 + 4, none⟩) (hg1.block b hlE1 HNB.out)).trans x4
      have y5 := (World.cell?_of_block (w := (((((wr.setCell ⟨b, off + i * 6, none⟩ (.int .i64 (m))).setCell ⟨b, off + i * 6 + 1, none⟩ (.int .i64 (m + 1))).setCell ⟨b, off + i * 6 + 2, none⟩ (.int .i64 (m + 1 + 1))).setCell ⟨b, off + i * 6 + 3, none⟩ (.int .i64 (m + 1 + 1 + 1))).setCell ⟨b, off + i * 6 + 4, none⟩ (.int .i64 (m + 1 + 1 + 1 + 1)))) (a := ⟨b, off + i * 6 + 5, none⟩) (hg1.block b hlE1 HNB.out)).trans x5
      clear x0 x1 x2 x3 x4 x5 z0 z1 z2 z3 z4
      have x0 := y0
      have x1 := y1
      have x2 := y2
      have x3 := y3
      have x4 := y4
      have x5 := y5
      clear y0 y1 y2 y3 y4 y5
      have hb11 : b < v1.heap.size := Nat.lt_of_lt_of_le hbl U6.out.size
      have z0 : v1.frozen? ⟨b, off + i * 6, none⟩ = false := (U6.out.froz _).trans (HFz.out _)
      have z1 : v1.frozen? ⟨b, off + i * 6 + 1, none⟩ = false := (U6.out.froz _).trans (HFz.out _)
      have z2 : v1.frozen? ⟨b, off + i * 6 + 2, none⟩ = false := (U6.out.froz _).trans (HFz.out _)
      have z3 : v1.frozen? ⟨b, off + i * 6 + 3, none⟩ = false := (U6.out.froz _).trans (HFz.out _)
      have z4 : v1.frozen? ⟨b, off + i * 6 + 4, none⟩ = false := (U6.out.froz _).trans (HFz.out _)
      have HMk := Lib.hid hm1
      have HFrk := Lib.hid hfr1
      have hgs1 := hg1.size
      clear hm1 hfr1 hg1 hlE1
      have K6 := Lib.hid (Kept.refl F2 v1)
      rw [HSG.out]
      have X0 := Lib.hid x0
      have X1 := Lib.hid x1
      have X2 := Lib.hid x2
      have X3 := Lib.hid x3
      have X4 := Lib.hid x4
      have X5 := Lib.hid x5
      have hfin := HCl.out v1 (mkP m xs[i]) _ U6.out (CellsAt.cons X0.out (CellsAt.cons X1.out (CellsAt.cons X2.out (CellsAt.cons X3.out (CellsAt.cons X4.out (CellsAt.cons X5.out (CellsAt.nil _ _ _))))))) (by obtain rfl := HSG.out; rw [mkP_def]; exact (PR_iff _ _ _).2 ⟨_, rfl, (HMk.out.mono K6.out (fun x _ cs G hk h => (fun w w' x cs G hk h => PR.mono (w := w) (w' := w') x cs G hk h) _ _ x cs G hk h))⟩) (HFrk.out.kept K6.out)
      have hst : (mkTo mkP cntP k0 xs i).set i (mkP m xs[i]) = mkTo mkP cntP k0 xs (i + 1) := by rw [HM.out]; exact mkTo_step hlt
      rw [hst] at hfin
      clear hst
      have HFin := Lib.hid (And.intro hfin.1 (And.intro hfin.2.1 (HR.out.2.2.trans hfin.2.2)))
      clear hfin
      have HM2 : Hid (m + 1 + 1 + 1 + 1 + 1 + (s : Int) = k0 + (sumBy cntP (xs.take (i + 1)) : Nat)) := by
        have h1 := HM.out
        have h2 := HCD.out
        unfold Hid
        rw [sumBy_take_succ cntP xs i hlt]
        omega
      go_wp2
      go_roundw
      case rel => exact ⟨i + 1, m + 1 + 1 + 1 + 1 + 1 + (s : Int), by omega, by go_num, rfl, by omega, HM2, HFin.out⟩
      case measure => (simp [intOf] <;> omega)
    · have HEnd : Hid (Chg F w wr ∧ Arr wr (PR wr) (mkS mkP cntP k0 xs) (.slice A xs.length cap) F ∧ Free wr F) := by
        have h := HR.out
        rw [mkTo_all k0 xs (by omega)] at h
        exact ⟨h.2.2, h.1, h.2.1⟩
      have hf : Hid (m = k0 + (sumBy cntP xs : Nat)) := by
        have h := HM.out
        rwa [List.take_of_length_le (by omega)] at h
      go_wp2
      go_ret
      exact ⟨ret_int hf.out, HEnd.out⟩

theorem markP_all : ∀ x, MarkP x := P.ind fun a0 a1 a2 a3 a4 ks ih w v F k0 h0 hk hx hfr hf => markPatternS_of ks ih w v F k0 h0 hk hx hfr hf
theorem markPatternS_any (xs : List P) (w : World) (v : Value) (F : List Nat) (k0 : Int) (h0 : 0 ≤ k0) (hk : k0 + (sumBy cntP xs : Nat) ≤ 1099511627776) (hx : Arr w (PR w) xs v F) (hfr : Free w F) (hf : Under w.heap.size F) :
    Calls Try.prog 81 #[v, .int .i64 k0] w fun e w' => e = .returned (.int .i64 (k0 + (sumBy cntP xs : Nat))) ∧ Chg F w w' ∧ Arr w' (PR w') (mkS mkP cntP k0 xs) v F ∧ Free w' F := markPatternS_of xs (fun x _ => markP_all x) w v F k0 h0 hk hx hfr hf

def mkTopP (k : Int) (x : P) : P := ⟨x.op, x.ct, x.n, x.m, x.va, mkS mkP cntP k x.ks⟩
set_option maxRecDepth 100000 in
set_option maxHeartbeats 1600000 in
theorem markPattern_any (x : P) (w : World) (cs : List Value) (F : List Nat) (k0 : Int) (h0 : 0 ≤ k0) (hk : k0 + (sumBy cntP x.ks : Nat) ≤ 1099511627776) (hx : PR w x cs F) (hfr : Free w F) (hf : Under w.heap.size F) :
    Calls Try.prog 27 #[.agg cs.toArray, .int .i64 k0] w fun e w' => e = .returned (.int .i64 (k0 + (sumBy cntP x.ks : Nat))) ∧ Chg F w w' ∧ PR w' (mkTopP k0 x) cs F ∧ Free w' F := by
  obtain ⟨kv, rfl, ha⟩ := (PR_iff _ _ _).1 hx
  obtain ⟨A, cap, rfl, -, -⟩ := ha.form
  have HA := Lib.hid ha
  have HF := Lib.hid hf
  have HFR := Lib.hid hfr
  have HK := Lib.hid hk
  clear hx ha hf hfr hk
  go_enter Try.func27, Try.ntmps27
  go_wp2_with fail
  obtain ⟨w1, hw1⟩ : ∃ w1, w1 = w.alloc (.cells #[.int .i64 x.op, .int .i64 x.ct, .int .i64 x.n, .int .i64 x.m, .int .i64 x.va, .slice A x.ks.length cap] 32) := ⟨_, rfl⟩
  have hb1 : Below w.heap.size w w1 := by rw [hw1]; exact (Below.refl _ _).alloc (Nat.le_refl _) _
  have KV : Blk w1 w.heap.size 32 #[.int .i64 x.op, .int .i64 x.ct, .int .i64 x.n, .int .i64 x.m, .int .i64 x.va, .slice A x.ks.length cap] := by rw [hw1]; exact Blk.new _ _ _
  rw [← hw1]
  clear hw1
  have z0 : w1.cell? ⟨w.heap.size, 5, none⟩ = some (.slice A x.ks.length cap) := (KV.cell 5).trans (by simp)
  have klt := KV.lt
  clear KV
  go_wp2_with fail
  refine (markPatternS_any x.ks w1 _ F k0 h0 HK.out (ArrP.below HA.out hb1 HF.out) (HFR.out.kept (.of_below hb1 HF.out)) (HF.out.mono hb1.size)).mono ?_
  rintro e w2 ⟨rfl, hg, hm, hfr2⟩
  have hfin : Chg F w w2 ∧ PR w2 (mkTopP k0 x) [.int .i64 x.op, .int .i64 x.ct, .int .i64 x.n, .int .i64 x.m, .int .i64 x.va, .slice A x.ks.length cap] F ∧ Free w2 F := ⟨(Chg.of_below hb1).trans hg, (PR_iff _ _ _).2 ⟨_, rfl, hm⟩, hfr2⟩
  have HFin := Lib.hid hfin
  clear hfin hm hfr2 hg
  go_wp2
  go_ret
  exact ⟨rfl, HFin.out⟩
end Go.Proofs.Ytbffkgfhcmigaaa

namespace Go.Proofs.Ytbffkgfhcmigaaa
open Go.RowKit

def cntVt (x : Vt) : Nat := 3
def mkVt (k : Int) (x : Vt) : Vt := ⟨k, ⟨k + 1, k + 1 + 1⟩⟩
theorem cntVt_def (x : Vt) : cntVt x = 3 := rfl

set_option maxRecDepth 100000 in
set_option maxHeartbeats 1600000 in
theorem markVarTypeS_any (xs : List Vt) (w : World) (v : Value) (F : List Nat) (k0 : Int) (h0 : 0 ≤ k0) (hk : k0 + (sumBy cntVt xs : Nat) ≤ 1099511627776) (hx : Arr w (VtR w) xs v F) (hfr : Free w F) (hf : Under w.heap.size F) :
    Calls Try.prog 49 #[v, .int .i64 k0] w fun e w' => e = .returned (.int .i64 (k0 + (sumBy cntVt xs : Nat))) ∧ Chg F w w' ∧ Arr w' (VtR w') (mkS mkVt cntVt k0 xs) v F ∧ Free w' F := by
  have HX := Lib.hid (And.intro hx (And.intro hfr (Chg.refl F w)))
  obtain ⟨A, cap, rfl, hc1, hc2⟩ := hx.form
  have HF := Lib.hid hf
  have HK := Lib.hid hk

  clear hx hfr hf hk
  go_enter Try.func49, Try.ntmps49
  go_wp2
  go_loopw [1, 5] (fun kv iv wr => ∃ i : Nat, ∃ m : Int, i ≤ xs.length ∧ iv = .int .i64 i ∧ kv = .int .i64 m ∧ 0 ≤ m ∧ Hid (m = k0 + (sumBy cntVt (xs.take i) : Nat)) ∧ Hid (Arr wr (VtR wr) (mkTo mkVt cntVt k0 xs i) (.slice A xs.length cap) F ∧ Free wr F ∧ Chg F w wr)) (fun _ iv _ => xs.length - (intOf iv).toNat)
  case atStart => exact ⟨0, k0, Nat.zero_le _, rfl, rfl, h0, (by simp [Hid, sumBy]), HX⟩
  case round =>
    obtain ⟨i, m, hi, rfl, rfl, hm0, HM, HR⟩ := hrel
    by_cases hlt : i < xs.length
    · have g1 : (0 : Int) ≤ (i : Int) := by omega
      have g2 : (i : Int) < (xs.length : Int) := by omega
      obtain ⟨b, off, c, F1, F2, F3, cap', hv, hFe, hc, hr, hfr2, hnb, hbl, hfz, hu2, hclose⟩ := HR.out.1.focus (fun w => VtR_len (w := w)) (fun w w' x cs G hk h => VtR.mono (w := w) (w' := w') x cs G hk h) HR.out.2.1 (HF.out.mono HR.out.2.2.size) (i := i) (by rw [mkTo_length]; exact hlt)
      obtain rfl : A = some ⟨b, off, none⟩ := by injection hv
      rw [mkTo_get hlt] at hr

      have hsum : m + (cntVt xs[i] : Nat) ≤ 1099511627776 := by
        have h1 := HM.out
        have h2 := HK.out
        have h3 := sumBy_take_le cntVt xs (i + 1)
        rw [sumBy_take_succ cntVt xs i hlt] at h3
        omega
      have HCl := Lib.hid hclose
      have HHv := Lib.hid hv
      have HFe := Lib.hid hFe
      clear hclose hv hFe
      obtain ⟨rfl, rfl⟩ := hr
      have hcd := cntVt_def xs[i]
      rw [hcd] at hsum
      have x0 : wr.cell? ⟨b, off + i * 3, none⟩ = some (.int .i64 xs[i].var) := hc 0 _ rfl
      have x1 : wr.cell? ⟨b, off + i * 3 + 1, none⟩ = some (.int .i64 xs[i].ty.d) := hc 1 _ rfl
      have x2 : wr.cell? ⟨b, off + i * 3 + 2, none⟩ = some (.int .i64 xs[i].ty.i) := hc 2 _ rfl
      clear hc
      have HFr2 := Lib.hid hfr2
      have HU2 := Lib.hid hu2
      have HNB := Lib.hid hnb
      have HCD := Lib.hid hcd
      clear hfr2 hu2 hnb hcd
      have HFz := Lib.hid hfz
      clear hfz
      have U0 := Lib.hid (Upd.refl b (off + i * 3) 3 [] wr)
      have K0 := Lib.hid (Kept.refl [] wr)
      have z0 : wr.frozen? ⟨b, off + i * 3, none⟩ = false := (U0.out.froz _).trans (HFz.out _)
      have z1 : wr.frozen? ⟨b, off + i * 3 + 1, none⟩ = false := (U0.out.froz _).trans (HFz.out _)
      have z2 : wr.frozen? ⟨b, off + i * 3 + 2, none⟩ = false := (U0.out.froz _).trans (HFz.out _)
      have X0 := Lib.hid x0
      have X1 := Lib.hid x1
      have X2 := Lib.hid x2
      have U1 := Lib.hid (U0.out.set (j := off + i * 3) (by omega) (by omega) (.int .i64 (m)))
      have Y0 := Lib.hid (show (wr.setCell ⟨b, off + i * 3, none⟩ (.int .i64 (m))).cell? ⟨b, off + i * 3, none⟩ = some (.int .i64 (m)) from World.cell?_setCell_same _ _ _ X0.out)
      have Y1 := Lib.hid ((World.cell?_setCell_other _ ⟨b, off + i * 3, none⟩ ⟨b, off + i * 3 + 1, none⟩ (.int .i64 (m)) (by intro e; injection e; omega)).trans X1.out)
      have Y2 := Lib.hid ((World.cell?_setCell_other _ ⟨b, off + i * 3, none⟩ ⟨b, off + i * 3 + 2, none⟩ (.int .i64 (m)) (by intro e; injection e; omega)).trans X2.out)
      clear X0 X1 X2
      have X0 := Y0
      have X1 := Y1
      have X2 := Y2
      clear Y0 Y1 Y2
      have U2 := Lib.hid (U1.out.set (j := off + i * 3 + 1) (by omega) (by omega) (.int .i64 (m + 1)))
      have Y0 := Lib.hid ((World.cell?_setCell_other _ ⟨b, off + i * 3 + 1, none⟩ ⟨b, off + i * 3, none⟩ (.int .i64 (m + 1)) (by intro e; injection e; omega)).trans X0.out)
      have Y1 := Lib.hid (show ((wr.setCell ⟨b, off + i * 3, none⟩ (.int .i64 (m))).setCell ⟨b, off + i * 3 + 1, none⟩ (.int .i64 (m + 1))).cell? ⟨b, off + i * 3 + 1, none⟩ = some (.int .i64 (m + 1)) from World.cell?_setCell_same _ _ _ X1.out)
      have Y2 := Lib.hid ((World.cell?_setCell_other _ ⟨b, off + i * 3 + 1, none⟩ ⟨b, off + i * 3 + 2, none⟩ (.int .i64 (m + 1)) (by intro e; injection e; omega)).trans X2.out)
      clear X0 X1 X2
      have X0 := Y0
      have X1 := Y1
      have X2 := Y2
      clear Y0 Y1 Y2
      have U3 := Lib.hid (U2.out.set (j := off + i * 3 + 2) (by omega) (by omega) (.int .i64 (m + 1 + 1)))
      have Y0 := Lib.hid ((World.cell?_setCell_other _ ⟨b, off + i * 3 + 2, none⟩ ⟨b, off + i * 3, none⟩ (.int .i64 (m + 1 + 1)) (by intro e; injection e; omega)).trans X0.out)
      have Y1 := Lib.hid ((World.cell?_setCell_other _ ⟨b, off + i * 3 + 2, none⟩ ⟨b, off + i * 3 + 1, none⟩ (.int .i64 (m + 1 + 1)) (by intro e; injection e; omega)).trans X1.out)
      have Y2 := Lib.hid (show (((wr.setCell ⟨b, off + i * 3, none⟩ (.int .i64 (m))).setCell ⟨b, off + i * 3 + 1, none⟩ (.int .i64 (m + 1))).setCell ⟨b, off + i * 3 + 2, none⟩ (.int .i64 (m + 1 + 1))).cell? ⟨b, off + i * 3 + 2, none⟩ = some (.int .i64 (m + 1 + 1)) from World.cell?_setCell_same _ _ _ X2.out)
      clear X0 X1 X2
      have X0 := Y0
      have X1 := Y1
      have X2 := Y2
      clear Y0 Y1 Y2
      have hfin := HCl.out (((wr.setCell ⟨b, off + i * 3, none⟩ (.int .i64 (m))).setCell ⟨b, off + i * 3 + 1, none⟩ (.int .i64 (m + 1))).setCell ⟨b, off + i * 3 + 2, none⟩ (.int .i64 (m + 1 + 1))) (mkVt m xs[i]) _ U3.out (CellsAt.cons X0.out (CellsAt.cons X1.out (CellsAt.cons X2.out (CellsAt.nil _ _ _)))) (⟨rfl, rfl⟩) (Free.nil _)
      have hst : (mkTo mkVt cntVt k0 xs i).set i (mkVt m xs[i]) = mkTo mkVt cntVt k0 xs (i + 1) := by rw [HM.out]; exact mkTo_step hlt
      rw [hst] at hfin
      clear hst
      have HFin := Lib.hid (And.intro hfin.1 (And.intro hfin.2.1 (HR.out.2.2.trans hfin.2.2)))
      clear hfin
      have HM2 : Hid (m + 1 + 1 + 1 = k0 + (sumBy cntVt (xs.take (i + 1)) : Nat)) := by
        have h1 := HM.out
        have h2 := HCD.out
        unfold Hid
        rw [sumBy_take_succ cntVt xs i hlt]
        omega
      go_wp2
      go_roundw
      case rel => exact ⟨i + 1, m + 1 + 1 + 1, by omega, by go_num, rfl, by omega, HM2, HFin.out⟩
      case measure => (simp [intOf] <;> omega)
    · have HEnd : Hid (Chg F w wr ∧ Arr wr (VtR wr) (mkS mkVt cntVt k0 xs) (.slice A xs.length cap) F ∧ Free wr F) := by
        have h := HR.out
        rw [mkTo_all k0 xs (by omega)] at h
        exact ⟨h.2.2, h.1, h.2.1⟩
      have hf : Hid (m = k0 + (sumBy cntVt xs : Nat)) := by
        have h := HM.out
        rwa [List.take_of_length_le (by omega)] at h
      go_wp2
      go_ret
      exact ⟨ret_int hf.out, HEnd.out⟩
end Go.Proofs.Ytbffkgfhcmigaaa

namespace Go.Proofs.Ytbffkgfhcmigaaa
open Go.RowKit

theorem V.size_sizes (v : V) : v.size = V.sizes v.ks := by
  obtain ⟨c, n, ks⟩ := v
  rw [V.size]
theorem P.size_sizes (p : P) : p.size = P.sizes p.ks := by
  obtain ⟨op, c, n, m, a, ks⟩ := p
  rw [P.size]
end Go.Proofs.Ytbffkgfhcmigaaa

namespace Go.Proofs.Ytbffkgfhcmigaaa
open Go.ChangeShapes Go.WideShapes Go.ChangeAt Go.RowKit

section
variable {H : Type} {enc : TypeId × Value → H} {P : Program} {w : World} {base : Nat} {spare : Nat → Bool} {held : Bool}

theorem cell_lt {w : World} {a : Addr} {v : Value} (h : w.cell? a = some v) : a.block < w.heap.size := by
  rcases Nat.lt_or_ge a.block w.heap.size with hl | hl
  · exact hl
  · unfold World.cell? at h
    rw [Array.getElem?_eq_none hl] at h
    cases h

theorem open_Arr {α : Type} (R : α → List Value → List Nat → Prop) {t e : TypeId} {k n fuel : Nat} {cs : List Value} {x : DataW H × List MemPlace} (ht : P.underlying t = some (.slice e)) (hk : P.cellsOf e = k) (hk0 : 0 < k) (hf : fuel = n + 1)
    (hR : ∀ ds y, DataW.trod enc P w base spare held n e ds = some y → ds.length = k → ∃ a F, R a ds F ∧ Under w.heap.size F)
    (h : DataW.trod enc P w base spare held fuel t cs = some x) : ∃ xs v F, cs = [v] ∧ Arr w R xs v F ∧ Under w.heap.size F := by
  subst hf
  rcases DataW.trod_slice ht h with ⟨rfl, -⟩ | ⟨a, len, cap, elems, rest, m, hm, rfl, -, -, hl, hmax, hlen, hel, -, -⟩
  · exact ⟨[], _, [], rfl, Arr.nil, Under.nil _⟩
  · obtain rfl : n = m := by omega
    by_cases h0 : len = 0
    · subst h0
      exact ⟨[], _, [], rfl, ⟨_, _, rfl, hl, hmax, .inl ⟨rfl, rfl⟩⟩, Under.nil _⟩
    · have get : ∀ i, i < len → ∃ ds y, (∀ j, j < k → w.cell? (a.add (i * k + j)) = ds[j]?) ∧ ds.length = k ∧ DataW.trod enc P w base spare held n e ds = some y := fun i hi => by
        have h1 := hel i hi
        rw [List.getElem?_eq_getElem (by omega), Option.bind_eq_some_iff] at h1
        obtain ⟨ds, h2, h3⟩ := h1
        obtain ⟨-, h4, h5⟩ := World.cells?_some h2
        rw [hk] at h4 h5
        refine ⟨ds, _, fun j hj => ?_, h4, h3⟩
        rw [← h5 j hj]
        congr 1
        unfold Addr.add
        by_cases e1 : i * k = 0 <;> by_cases e2 : j = 0 <;> simp [e1, e2, Nat.add_assoc]
      obtain ⟨b, off, spot⟩ := a
      obtain ⟨ds0, y0, g1, g2, -⟩ := get 0 (by omega)
      have hc0 : w.cell? ⟨b, off, spot⟩ = some (ds0[0]'(by omega)) := by
        have := g1 0 hk0
        simpa [Addr.add, List.getElem?_eq_getElem (show 0 < ds0.length by omega)] using this
      have hspot : spot = none := by simpa using World.cell?_spot hc0
      subst hspot
      have hb : b < w.heap.size := cell_lt hc0
      have key : ∀ m, m ≤ len → ∃ (xs : List α) (cs : List Value) (F : List Nat), xs.length = m ∧ cs.length = m * k ∧ CellsAt w b off cs ∧ Flat R xs cs F ∧ Under w.heap.size F := by
        intro m
        induction m with
        | zero => intro _; exact ⟨[], [], [], rfl, by simp, fun j u hj => by simp at hj, ⟨rfl, rfl⟩, Under.nil _⟩
        | succ m ih =>
          intro hm
          obtain ⟨xs, cs, F, h1, h2, h3, h4, h5⟩ := ih (by omega)
          obtain ⟨ds, y, g1, g2, g3⟩ := get m (by omega)
          obtain ⟨z, G, r1, r2⟩ := hR ds y g3 g2
          refine ⟨xs ++ [z], cs ++ ds, F ++ G, by simp [h1], by simp [h2, g2, Nat.add_mul], h3.append (fun j u hj => ?_), h4.append (Flat.one r1), fun c hc => ?_⟩
          · have hjk : j < k := by rw [← g2]; exact (List.getElem?_eq_some_iff.1 hj).1
            have := g1 j hjk
            rw [hj, Addr.add_lit] at this
            rw [h2, ← this]
            congr 2
            omega
          · rcases List.mem_append.1 hc with hc | hc
            · exact h5 c hc
            · exact r2 c hc
      obtain ⟨xs, cs, F, h1, h2, h3, h4, h5⟩ := key len (Nat.le_refl _)
      refine ⟨xs, _, b :: F, rfl, ⟨_, _, by rw [h1], by omega, hmax, .inr ⟨b, off, cs, F, rfl, h3, h4, rfl⟩⟩, fun c hc => ?_⟩
      rcases List.mem_cons.1 hc with rfl | hc
      · exact hb
      · exact h5 c hc

theorem one_field {fs : Array Field} {n : Nat} {cs : List Value} {xs : List (DataW H × List MemPlace)}
    (hf : ∀ (i : Nat) (f : Field), fs[i]? = some f → DataW.trod enc P w base spare held n f.type ((cs.drop f.offset).take (P.cellsOf f.type)) = xs[i]?)
    (hone : Deep.oneCellFields P fs = true) (hxl : xs.length = fs.size) (i : Nat) (f : Field) (hi : fs[i]? = some f) (c : Value) (hc : cs[i]? = some c) :
    ∃ y, DataW.trod enc P w base spare held n f.type [c] = some y := by
  obtain ⟨h1, h2⟩ := Deep.hone_of hone i f hi
  have h := hf i f hi
  have hlt : i < fs.size := (Array.getElem?_eq_some_iff.1 hi).1
  rw [List.getElem?_eq_getElem (show i < xs.length by omega), h1, h2] at h
  obtain ⟨hlc, hcc⟩ := List.getElem?_eq_some_iff.1 hc
  rw [List.drop_eq_getElem_cons hlc, hcc] at h
  exact ⟨_, h⟩

theorem sub_field {fs : Array Field} {n : Nat} {cs : List Value} {xs : List (DataW H × List MemPlace)}
    (hf : ∀ (i : Nat) (f : Field), fs[i]? = some f → DataW.trod enc P w base spare held n f.type ((cs.drop f.offset).take (P.cellsOf f.type)) = xs[i]?)
    (hxl : xs.length = fs.size) (i : Nat) (f : Field) (hi : fs[i]? = some f) (k off : Nat) (hk : P.cellsOf f.type = k) (ho : f.offset = off) :
    ∃ y, DataW.trod enc P w base spare held n f.type ((cs.drop off).take k) = some y := by
  have h := hf i f hi
  have hlt : i < fs.size := (Array.getElem?_eq_some_iff.1 hi).1
  rw [List.getElem?_eq_getElem (show i < xs.length by omega), hk, ho] at h
  exact ⟨_, h⟩

theorem open_slice_arg {α : Type} (R : α → List Value → List Nat → Prop) {t e : TypeId} {k : Nat} {r : Reach} {b0 : Nat} {v : Value} {d : DataW H} {ps : List MemPlace} (ht : P.underlying t = some (.slice e)) (hk : P.cellsOf e = k) (hk0 : 0 < k)
    (hR : ∀ n ds y, DataW.trod enc P w base spare held n e ds = some y → ∃ a F, R a ds F ∧ Under w.heap.size F)
    (hval : Value.okWide P w r b0 t v) (h : DataW.Trod enc P w base spare held t v d ps) : ∃ xs F, Arr w R xs v F ∧ Under w.heap.size F := by
  obtain ⟨a, len, cap, rfl⟩ := okWide_slice ht hval
  obtain ⟨fuel, hf⟩ := h
  cases fuel with
  | zero => simp [DataW.trod] at hf
  | succ n =>
    obtain ⟨xs, v, F, hv, ha, hF⟩ := open_Arr R ht hk hk0 rfl (fun ds y hd _ => hR n ds y hd) hf
    have : v = .slice a len cap := by simpa [Value.cells] using hv.symm
    subst this
    exact ⟨xs, F, ha, hF⟩
end
end Go.Proofs.Ytbffkgfhcmigaaa

namespace Go.Proofs.Ytbffkgfhcmigaaa
open Go.ChangeShapes Go.WideShapes Go.ChangeAt Go.RowKit
set_option maxRecDepth 100000

theorem cellsOf_lawsTy : Try.prog.cellsOf 24 = 2 := by kernel_rfl

theorem open_Ty_cells {H : Type} {enc : TypeId × Value → H} {w : World} {base : Nat} {spare : Nat → Bool} {held : Bool} (fuel : Nat) (cs : List Value) (x : DataW H × List MemPlace)
    (h : DataW.trod enc Try.prog w base spare held fuel 24 cs = some x) : ∃ v F, TyR w v cs F ∧ Under w.heap.size F := by
  obtain ⟨xs, n, rfl, -, hl, hxl, hf⟩ := DataW.trod_struct Try.underlying24 h
  rw [cellsOf_lawsTy] at hl
  match cs, hl with
  | [c0, c1], _ =>
  obtain ⟨y0, f0⟩ := sub_field hf hxl 0 _ rfl 1 0 (by kernel_rfl) rfl
  obtain ⟨i0, e0, -, -⟩ := DataW.trod_int Try.underlying3 f0
  obtain rfl : c0 = .int .i64 i0 := by simpa using e0
  obtain ⟨y1, f1⟩ := sub_field hf hxl 1 _ rfl 1 1 (by kernel_rfl) rfl
  obtain ⟨i1, e1, -, -⟩ := DataW.trod_int Try.underlying3 f1
  obtain rfl : c1 = .int .i64 i1 := by simpa using e1
  exact ⟨⟨i0, i1⟩, [], ⟨rfl, rfl⟩, Under.nil _⟩

theorem open_Ty {H : Type} {enc : TypeId × Value → H} {w : World} {base : Nat} {spare : Nat → Bool} {held : Bool} {r : Reach} {b0 : Nat} {v : Value} {d : DataW H} {ps : List MemPlace} (hval : Value.okWide Try.prog w r b0 24 v)
    (h : DataW.Trod enc Try.prog w base spare held 24 v d ps) : ∃ (x : Ty) (cs : List Value) (F : List Nat), v = .agg cs.toArray ∧ TyR w x cs F ∧ Under w.heap.size F := by
  obtain ⟨cs, rfl, -⟩ := okWide_struct Try.underlying24 hval
  obtain ⟨fuel, hf⟩ := h
  obtain ⟨x, F, h1, h2⟩ := open_Ty_cells fuel _ _ hf
  exact ⟨x, cs.toList, F, by simp, h1, h2⟩
theorem open_Tys {H : Type} {enc : TypeId × Value → H} {w : World} {base : Nat} {spare : Nat → Bool} {held : Bool} {r : Reach} {b0 : Nat} {v : Value} {d : DataW H} {ps : List MemPlace} (hval : Value.okWide Try.prog w r b0 198 v)
    (h : DataW.Trod enc Try.prog w base spare held 198 v d ps) : ∃ (x : List Ty) (F : List Nat), Arr w (TyR w) x v F ∧ Under w.heap.size F :=
  open_slice_arg (TyR w) Try.underlying198 cellsOf_lawsTy (by decide) (fun n ds y hd => open_Ty_cells n ds y hd) hval h
end Go.Proofs.Ytbffkgfhcmigaaa

namespace Go.Proofs.Ytbffkgfhcmigaaa
open Go.ChangeShapes Go.WideShapes Go.ChangeAt Go.RowKit
set_option maxRecDepth 100000

theorem cellsOf_lawsKt : Try.prog.cellsOf 200 = 3 := by kernel_rfl

theorem open_Kt_cells {H : Type} {enc : TypeId × Value → H} {w : World} {base : Nat} {spare : Nat → Bool} {held : Bool} (fuel : Nat) (cs : List Value) (x : DataW H × List MemPlace)
    (h : DataW.trod enc Try.prog w base spare held fuel 200 cs = some x) : ∃ v F, KtR w v cs F ∧ Under w.heap.size F := by
  obtain ⟨xs, n, rfl, -, hl, hxl, hf⟩ := DataW.trod_struct Try.underlying200 h
  rw [cellsOf_lawsKt] at hl
  match cs, hl with
  | [c0, c1, c2], _ =>
  obtain ⟨y0, f0⟩ := sub_field hf hxl 0 _ rfl 1 0 (by kernel_rfl) rfl
  obtain ⟨s0, e0, -, hs0⟩ := DataW.trod_string Try.underlying9 f0
  obtain rfl : c0 = .string s0 := by simpa using e0
  obtain ⟨y1, f1⟩ := sub_field hf hxl 1 _ rfl 1 1 (by kernel_rfl) rfl
  cases n with
  | zero => simp [DataW.trod] at f1
  | succ n =>
  obtain ⟨l1, kv, F, ek, ha, hF⟩ := open_Arr (TyR w) Try.underlying198 cellsOf_lawsTy (by decide) rfl (fun ds y hd _ => open_Ty_cells n ds y hd) f1
  obtain rfl : c1 = kv := by simpa using ek
  obtain ⟨y2, f2⟩ := sub_field hf hxl 2 _ rfl 1 2 (by kernel_rfl) rfl
  obtain ⟨i2, e2, -, -⟩ := DataW.trod_int Try.underlying3 f2
  obtain rfl : c2 = .int .i64 i2 := by simpa using e2
  exact ⟨⟨s0, l1, i2⟩, F, ⟨_, rfl, ha, (by unfold maxLen at hs0; omega)⟩, hF⟩

theorem open_Kt {H : Type} {enc : TypeId × Value → H} {w : World} {base : Nat} {spare : Nat → Bool} {held : Bool} {r : Reach} {b0 : Nat} {v : Value} {d : DataW H} {ps : List MemPlace} (hval : Value.okWide Try.prog w r b0 200 v)
    (h : DataW.Trod enc Try.prog w base spare held 200 v d ps) : ∃ (x : Kt) (cs : List Value) (F : List Nat), v = .agg cs.toArray ∧ KtR w x cs F ∧ Under w.heap.size F := by
  obtain ⟨cs, rfl, -⟩ := okWide_struct Try.underlying200 hval
  obtain ⟨fuel, hf⟩ := h
  obtain ⟨x, F, h1, h2⟩ := open_Kt_cells fuel _ _ hf
  exact ⟨x, cs.toList, F, by simp, h1, h2⟩
theorem open_Kts {H : Type} {enc : TypeId × Value → H} {w : World} {base : Nat} {spare : Nat → Bool} {held : Bool} {r : Reach} {b0 : Nat} {v : Value} {d : DataW H} {ps : List MemPlace} (hval : Value.okWide Try.prog w r b0 105 v)
    (h : DataW.Trod enc Try.prog w base spare held 105 v d ps) : ∃ (x : List Kt) (F : List Nat), Arr w (KtR w) x v F ∧ Under w.heap.size F :=
  open_slice_arg (KtR w) Try.underlying105 cellsOf_lawsKt (by decide) (fun n ds y hd => open_Kt_cells n ds y hd) hval h
end Go.Proofs.Ytbffkgfhcmigaaa

namespace Go.Proofs.Ytbffkgfhcmigaaa
open Go.ChangeShapes Go.WideShapes Go.ChangeAt Go.RowKit
set_option maxRecDepth 100000

theorem cellsOf_lawsDt : Try.prog.cellsOf 107 = 2 := by kernel_rfl

theorem open_Dt_cells {H : Type} {enc : TypeId × Value → H} {w : World} {base : Nat} {spare : Nat → Bool} {held : Bool} (fuel : Nat) (cs : List Value) (x : DataW H × List MemPlace)
    (h : DataW.trod enc Try.prog w base spare held fuel 107 cs = some x) : ∃ v F, DtR w v cs F ∧ Under w.heap.size F := by
  obtain ⟨xs, n, rfl, -, hl, hxl, hf⟩ := DataW.trod_struct Try.underlying107 h
  rw [cellsOf_lawsDt] at hl
  match cs, hl with
  | [c0, c1], _ =>
  obtain ⟨y0, f0⟩ := sub_field hf hxl 0 _ rfl 1 0 (by kernel_rfl) rfl
  obtain ⟨s0, e0, -, hs0⟩ := DataW.trod_string Try.underlying9 f0
  obtain rfl : c0 = .string s0 := by simpa using e0
  obtain ⟨y1, f1⟩ := sub_field hf hxl 1 _ rfl 1 1 (by kernel_rfl) rfl
  cases n with
  | zero => simp [DataW.trod] at f1
  | succ n =>
  obtain ⟨l1, kv, F, ek, ha, hF⟩ := open_Arr (KtR w) Try.underlying105 cellsOf_lawsKt (by decide) rfl (fun ds y hd _ => open_Kt_cells n ds y hd) f1
  obtain rfl : c1 = kv := by simpa using ek
  exact ⟨⟨s0, l1⟩, F, ⟨_, rfl, ha, (by unfold maxLen at hs0; omega)⟩, hF⟩

theorem open_Dt {H : Type} {enc : TypeId × Value → H} {w : World} {base : Nat} {spare : Nat → Bool} {held : Bool} {r : Reach} {b0 : Nat} {v : Value} {d : DataW H} {ps : List MemPlace} (hval : Value.okWide Try.prog w r b0 107 v)
    (h : DataW.Trod enc Try.prog w base spare held 107 v d ps) : ∃ (x : Dt) (cs : List Value) (F : List Nat), v = .agg cs.toArray ∧ DtR w x cs F ∧ Under w.heap.size F := by
  obtain ⟨cs, rfl, -⟩ := okWide_struct Try.underlying107 hval
  obtain ⟨fuel, hf⟩ := h
  obtain ⟨x, F, h1, h2⟩ := open_Dt_cells fuel _ _ hf
  exact ⟨x, cs.toList, F, by simp, h1, h2⟩
theorem open_Dts {H : Type} {enc : TypeId × Value → H} {w : World} {base : Nat} {spare : Nat → Bool} {held : Bool} {r : Reach} {b0 : Nat} {v : Value} {d : DataW H} {ps : List MemPlace} (hval : Value.okWide Try.prog w r b0 22 v)
    (h : DataW.Trod enc Try.prog w base spare held 22 v d ps) : ∃ (x : List Dt) (F : List Nat), Arr w (DtR w) x v F ∧ Under w.heap.size F :=
  open_slice_arg (DtR w) Try.underlying22 cellsOf_lawsDt (by decide) (fun n ds y hd => open_Dt_cells n ds y hd) hval h
end Go.Proofs.Ytbffkgfhcmigaaa

namespace Go.Proofs.Ytbffkgfhcmigaaa
open Go.ChangeShapes Go.WideShapes Go.ChangeAt Go.RowKit
set_option maxRecDepth 100000

theorem cellsOf_lawsP : Try.prog.cellsOf 55 = 6 := by kernel_rfl

theorem open_P_cells {H : Type} {enc : TypeId × Value → H} {w : World} {base : Nat} {spare : Nat → Bool} {held : Bool} (fuel : Nat) : ∀ (cs : List Value) (x : DataW H × List MemPlace),
    DataW.trod enc Try.prog w base spare held fuel 55 cs = some x → ∃ v F, PR w v cs F ∧ Under w.heap.size F := by
  induction fuel using Nat.strongRecOn with
  | ind fuel ih =>
  intro cs x h
  obtain ⟨xs, n, rfl, -, hl, hxl, hf⟩ := DataW.trod_struct Try.underlying55 h
  rw [cellsOf_lawsP] at hl
  match cs, hl with
  | [c0, c1, c2, c3, c4, c5], _ =>
  obtain ⟨y, hq⟩ := one_field hf (by kernel_rfl) hxl 5 _ rfl c5 rfl
  obtain ⟨y0, f0⟩ := one_field hf (by kernel_rfl) hxl 0 _ rfl c0 rfl
  obtain ⟨i0, e0, -, -⟩ := DataW.trod_int Try.underlying3 f0
  obtain ⟨y1, f1⟩ := one_field hf (by kernel_rfl) hxl 1 _ rfl c1 rfl
  obtain ⟨i1, e1, -, -⟩ := DataW.trod_int Try.underlying3 f1
  obtain ⟨y2, f2⟩ := one_field hf (by kernel_rfl) hxl 2 _ rfl c2 rfl
  obtain ⟨i2, e2, -, -⟩ := DataW.trod_int Try.underlying3 f2
  obtain ⟨y3, f3⟩ := one_field hf (by kernel_rfl) hxl 3 _ rfl c3 rfl
  obtain ⟨i3, e3, -, -⟩ := DataW.trod_int Try.underlying3 f3
  obtain ⟨y4, f4⟩ := one_field hf (by kernel_rfl) hxl 4 _ rfl c4 rfl
  obtain ⟨i4, e4, -, -⟩ := DataW.trod_int Try.underlying3 f4
  simp only [List.cons.injEq, and_true] at e0 e1 e2 e3 e4
  subst e0 e1 e2 e3 e4
  cases n with
  | zero => simp [DataW.trod] at hq
  | succ n =>
    obtain ⟨ks, kv, F, ek, ha, hF⟩ := open_Arr (PR w) Try.underlying53 cellsOf_lawsP (by decide) rfl (fun ds y hd _ => ih n (by omega) ds y hd) hq
    simp only [List.cons.injEq, and_true] at ek
    subst ek
    exact ⟨⟨i0, i1, i2, i3, i4, ks⟩, F, (PR_iff _ _ _).2 ⟨_, rfl, ha⟩, hF⟩

theorem open_P {H : Type} {enc : TypeId × Value → H} {w : World} {base : Nat} {spare : Nat → Bool} {held : Bool} {r : Reach} {b0 : Nat} {v : Value} {d : DataW H} {ps : List MemPlace} (hval : Value.okWide Try.prog w r b0 55 v)
    (h : DataW.Trod enc Try.prog w base spare held 55 v d ps) : ∃ (x : P) (cs : List Value) (F : List Nat), v = .agg cs.toArray ∧ PR w x cs F ∧ Under w.heap.size F := by
  obtain ⟨cs, rfl, -⟩ := okWide_struct Try.underlying55 hval
  obtain ⟨fuel, hf⟩ := h
  obtain ⟨x, F, h1, h2⟩ := open_P_cells fuel _ _ hf
  exact ⟨x, cs.toList, F, by simp, h1, h2⟩
end Go.Proofs.Ytbffkgfhcmigaaa
