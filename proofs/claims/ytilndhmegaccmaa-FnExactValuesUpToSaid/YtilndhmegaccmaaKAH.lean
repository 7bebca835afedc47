/-
  Lemmas and contracts of functions: markCtorS: every part is written anew. Conditions: the parts are no more than 1099511627776. markDataS: every part is written anew. Conditions: the parts are no more than 1099511627776. heldValueS: what mark wrote is there. Conditions: the parts are no more than 1099511627776. What comes in as an argument (slices of structs, trees) lies in memory as the plain data say. Conditions: none. A Type that comes in as an argument lies in memory as the plain data say. Conditions: none. A Ctor that comes in as an argument lies in memory as the plain data say. Conditions: none. A Data that comes in as an argument lies in memory as the plain data say. Conditions: none.
-/
import Derived.Test.YtilndhmegaccmaaKAC
import Derived.Test.YtilndhmegaccmaaKAG
import Derived.Test.YtilndhmegaccmaaKAA
import Derived.Deep.RegionWith
import Derived.ProofKit
import Derived.ChangeArms
import Derived.Deep.Fields
import Derived.Test.YtilndhmegaccmaaChecked

set_option linter.unusedVariables false
set_option linter.unusedSimpArgs false

namespace Go.Proofs.Ytilndhmegaccmaa
open Go.RowKit

def cntKt (x : Kt) : Nat := 2 + sumBy cntTy x.args
def mkKt (k : Int) (x : Kt) : Kt := ⟨mtext (k), mkS mkTy cntTy (k + 1) x.args, k + 1 + (sumBy cntTy x.args : Nat)⟩
theorem cntKt_def (x : Kt) : cntKt x = 2 + sumBy cntTy x.args := rfl

set_option maxRecDepth 100000 in
set_option maxHeartbeats 1600000 in
theorem markCtorS_any (xs : List Kt) (w : World) (v : Value) (F : List Nat) (k0 : Int) (h0 : 0 ≤ k0) (hk : k0 + (sumBy cntKt xs : Nat) ≤ 1099511627776) (hx : Arr w (KtR w) xs v F) (hfr : Free w F) (hf : Under w.heap.size F) :
    Calls Try.prog 71 #[v, .int .i64 k0] w fun e w' => e = .returned (.int .i64 (k0 + (sumBy cntKt xs : Nat))) ∧ Chg F w w' ∧ Arr w' (KtR w') (mkS mkKt cntKt k0 xs) v F ∧ Free w' F := by
  have HX := Lib.hid (And.intro hx (And.intro hfr (Chg.refl F w)))
  obtain ⟨A, cap, rfl, hc1, hc2⟩ := hx.form
  have HF := Lib.hid hf
  have HK := Lib.hid hk

  clear hx hfr hf hk
  go_enter Try.func71, Try.ntmps71
  go_wp2
  go_loopw [1, 5] (fun kv iv wr => ∃ i : Nat, ∃ m : Int, i ≤ xs.length ∧ iv = .int .i64 i ∧ kv = .int .i64 m ∧ 0 ≤ m ∧ Hid (m = k0 + (sumBy cntKt (xs.take i) : Nat)) ∧ Hid (Arr wr (KtR wr) (mkTo mkKt cntKt k0 xs i) (.slice A xs.length cap) F ∧ Free wr F ∧ Chg F w wr)) (fun _ iv _ => xs.length - (intOf iv).toNat)
  case atStart => exact ⟨0, k0, Nat.zero_le _, rfl, rfl, h0, (by simp [Hid, sumBy]), HX⟩
  case round =>
    obtain ⟨i, m, hi, rfl, rfl, hm0, HM, HR⟩ := hrel
    by_cases hlt : i < xs.length
    · have g1 : (0 : Int) ≤ (i : Int) := by omega
      have g2 : (i : Int) < (xs.length : Int) := by omega
      obtain ⟨b, off, c, F1, F2, F3, cap', hv, hFe, hc, hr, hfr2, hnb, hbl, hfz, hu2, hclose⟩ := HR.out.1.focus (fun w => KtR_len (w := w)) (fun w w' x cs G hk h => KtR.mono (w := w) (w' := w') x cs G hk h) HR.out.2.1 (HF.out.mono HR.out.2.2.size) (i := i) (by rw [mkTo_length]; exact hlt)
      obtain rfl : A = some ⟨b, off, none⟩ := by injection hv
      rw [mkTo_get hlt] at hr

      have hsum : m + (cntKt xs[i] : Nat) ≤ 1099511627776 := by
        have h1 := HM.out
        have h2 := HK.out
        have h3 := sumBy_take_le cntKt xs (i + 1)
        rw [sumBy_take_succ cntKt xs i hlt] at h3
        omega
      have HCl := Lib.hid hclose
      have HHv := Lib.hid hv
      have HFe := Lib.hid hFe
      clear hclose hv hFe
      obtain ⟨kv, rfl, ha, hs0⟩ := hr
      obtain ⟨A1, cap1, rfl, -, -⟩ := ha.form
      have hcd := cntKt_def xs[i]
      rw [hcd] at hsum
      have x0 : wr.cell? ⟨b, off + i * 3, none⟩ = some (.string xs[i].name) := hc 0 _ rfl
      have x1 : wr.cell? ⟨b, off + i * 3 + 1, none⟩ = some (.slice A1 xs[i].args.length cap1) := hc 1 _ rfl
      have x2 : wr.cell? ⟨b, off + i * 3 + 2, none⟩ = some (.int .i64 xs[i].idx) := hc 2 _ rfl
      clear hc
      have HA := Lib.hid ha
      have HFr2 := Lib.hid hfr2
      have HU2 := Lib.hid hu2
      have HNB := Lib.hid hnb
      clear ha hfr2 hu2 hnb
      have hsn : (0 : Int) ≤ (sumBy cntTy xs[i].args : Nat) := by omega
      generalize hsg : sumBy cntTy xs[i].args = s at *
      have HSG := Lib.hid hsg
      have HCD := Lib.hid hcd
      clear hsg hcd
      have HFz := Lib.hid hfz
      clear hfz
      have U0 := Lib.hid (Upd.refl b (off + i * 3) 3 F2 wr)
      have K0 := Lib.hid (Kept.refl F2 wr)
      have z0 : wr.frozen? ⟨b, off + i * 3, none⟩ = false := (U0.out.froz _).trans (HFz.out _)
      have z2 : wr.frozen? ⟨b, off + i * 3 + 2, none⟩ = false := (U0.out.froz _).trans (HFz.out _)
      go_wp2_with fail
      refine (markText_any (m) _ (by omega) (by omega)).mono ?_
      rintro e v1 ⟨rfl, hb1⟩
      have hlE1 : b < wr.heap.size := Nat.lt_of_lt_of_le hbl U0.out.size
      have U1 := Lib.hid (U0.out.below hb1 hlE1)
      have K1 := Lib.hid (K0.out.step hb1 (HU2.out.mono U0.out.size))
      have y0 := (hb1.cell (p := ⟨b, off + i * 3, none⟩) hlE1).trans x0
      have y1 := (hb1.cell (p := ⟨b, off + i * 3 + 1, none⟩) hlE1).trans x1
      have y2 := (hb1.cell (p := ⟨b, off + i * 3 + 2, none⟩) hlE1).trans x2
      clear x0 x1 x2 z0 z2
      have x0 := y0
      have x1 := y1
      have x2 := y2
      clear y0 y1 y2
      have hb11 : b < v1.heap.size := Nat.lt_of_lt_of_le hbl U1.out.size
      have z0 : v1.frozen? ⟨b, off + i * 3, none⟩ = false := (U1.out.froz _).trans (HFz.out _)
      have z2 : v1.frozen? ⟨b, off + i * 3 + 2, none⟩ = false := (U1.out.froz _).trans (HFz.out _)
      clear hb1 hlE1
      go_wp2_with fail
      have U2 := Lib.hid (U1.out.set (j := off + i * 3) (by omega) (by omega) (.string (mtext (m))))
      have K2 := Lib.hid (K1.out.set (b := b) (j := off + i * 3) (u := .string (mtext (m))) HNB.out)
      have y0 : (v1.setCell ⟨b, off + i * 3, none⟩ (.string (mtext (m)))).cell? ⟨b, off + i * 3, none⟩ = some (.string (mtext (m))) := World.cell?_setCell_same _ _ _ x0
      have y1 := (World.cell?_setCell_other _ ⟨b, off + i * 3, none⟩ ⟨b, off + i * 3 + 1, none⟩ (.string (mtext (m))) (by intro e; injection e; omega)).trans x1
      have y2 := (World.cell?_setCell_other _ ⟨b, off + i * 3, none⟩ ⟨b, off + i * 3 + 2, none⟩ (.string (mtext (m))) (by intro e; injection e; omega)).trans x2
      clear x0 x1 x2
      have x0 := y0
      have x1 := y1
      have x2 := y2
      clear y0 y1 y2
      refine (markTypeS_any xs[i].args _ _ F2 (m + 1) (by omega) (by rw [HSG.out]; omega) (HA.out.mono K2.out (fun x _ cs G hk h => (fun w w' x cs G hk h => TyR.mono (w := w) (w' := w') x cs G hk h) _ _ x cs G hk h)) (HFr2.out.kept K2.out) (HU2.out.mono U2.out.size)).mono ?_
      rintro e v2 ⟨rfl, hg2, hm2, hfr2⟩
      have hlE2 : b < (v1.setCell ⟨b, off + i * 3, none⟩ (.string (mtext (m)))).heap.size := Nat.lt_of_lt_of_le hbl U2.out.size
      have U3 := Lib.hid (U2.out.sub hg2 HNB.out hlE2)
      have y0 := (World.cell?_of_block (w := (v1.setCell ⟨b, off + i * 3, none⟩ (.string (mtext (m))))) (a := ⟨b, off + i * 3, none⟩) (hg2.block b hlE2 HNB.out)).trans x0
      have y1 := (World.cell?_of_block (w := (v1.setCell ⟨b, off + i * 3, none⟩ (.string (mtext (m))))) (a := ⟨b, off + i * 3 + 1, none⟩) (hg2.block b hlE2 HNB.out)).trans x1
      have y2 := (World.cell?_of_block (w := (v1.setCell ⟨b, off + i * 3, none⟩ (.string (mtext (m))))) (a := ⟨b, off + i * 3 + 2, none⟩) (hg2.block b hlE2 HNB.out)).trans x2
      clear x0 x1 x2 z0 z2
      have x0 := y0
      have x1 := y1
      have x2 := y2
      clear y0 y1 y2
      have hb12 : b < v2.heap.size := Nat.lt_of_lt_of_le hbl U3.out.size
      have z0 : v2.frozen? ⟨b, off + i * 3, none⟩ = false := (U3.out.froz _).trans (HFz.out _)
      have z2 : v2.frozen? ⟨b, off + i * 3 + 2, none⟩ = false := (U3.out.froz _).trans (HFz.out _)
      have HMk := Lib.hid hm2
      have HFrk := Lib.hid hfr2
      have hgs2 := hg2.size
      clear hm2 hfr2 hg2 hlE2
      have K3 := Lib.hid (Kept.refl F2 v2)
      rw [HSG.out]
      have X0 := Lib.hid x0
      have X1 := Lib.hid x1
      have X2 := Lib.hid x2
      have U4 := Lib.hid (U3.out.set (j := off + i * 3 + 2) (by omega) (by omega) (.int .i64 (m + 1 + (s : Int))))
      have K4 := Lib.hid (K3.out.set (b := b) (j := off + i * 3 + 2) (u := .int .i64 (m + 1 + (s : Int))) HNB.out)
      have Y0 := Lib.hid ((World.cell?_setCell_other _ ⟨b, off + i * 3 + 2, none⟩ ⟨b, off + i * 3, none⟩ (.int .i64 (m + 1 + (s : Int))) (by intro e; injection e; omega)).trans X0.out)
      have Y1 := Lib.hid ((World.cell?_setCell_other _ ⟨b, off + i * 3 + 2, none⟩ ⟨b, off + i * 3 + 1, none⟩ (.int .i64 (m + 1 + (s : Int))) (by intro e; injection e; omega)).trans X1.out)
      have Y2 := Lib.hid (show (v2.setCell ⟨b, off + i * 3 + 2, none⟩ (.int .i64 (m + 1 + (s : Int)))).cell? ⟨b, off + i * 3 + 2, none⟩ = some (.int .i64 (m + 1 + (s : Int))) from World.cell?_setCell_same _ _ _ X2.out)
      clear X0 X1 X2
      have X0 := Y0
      have X1 := Y1
      have X2 := Y2
      clear Y0 Y1 Y2
      have hfin := HCl.out (v2.setCell ⟨b, off + i * 3 + 2, none⟩ (.int .i64 (m + 1 + (s : Int)))) (mkKt m xs[i]) _ U4.out (CellsAt.cons X0.out (CellsAt.cons X1.out (CellsAt.cons X2.out (CellsAt.nil _ _ _)))) (by obtain rfl := HSG.out; exact ⟨_, rfl, (HMk.out.mono K4.out (fun x _ cs G hk h => (fun w w' x cs G hk h => TyR.mono (w := w) (w' := w') x cs G hk h) _ _ x cs G hk h)), mtext_le _ (by omega) (by omega)⟩) (HFrk.out.kept K4.out)
      have hst : (mkTo mkKt cntKt k0 xs i).set i (mkKt m xs[i]) = mkTo mkKt cntKt k0 xs (i + 1) := by rw [HM.out]; exact mkTo_step hlt
      rw [hst] at hfin
      clear hst
      have HFin := Lib.hid (And.intro hfin.1 (And.intro hfin.2.1 (HR.out.2.2.trans hfin.2.2)))
      clear hfin
      have HM2 : Hid (m + 1 + (s : Int) + 1 = k0 + (sumBy cntKt (xs.take (i + 1)) : Nat)) := by
        have h1 := HM.out
        have h2 := HCD.out
        unfold Hid
        rw [sumBy_take_succ cntKt xs i hlt]
        omega
      go_wp2
      go_roundw
      case rel => exact ⟨i + 1, m + 1 + (s : Int) + 1, by omega, by go_num, rfl, by omega, HM2, HFin.out⟩
      case measure => (simp [intOf] <;> omega)
    · have HEnd : Hid (Chg F w wr ∧ Arr wr (KtR wr) (mkS mkKt cntKt k0 xs) (.slice A xs.length cap) F ∧ Free wr F) := by
        have h := HR.out
        rw [mkTo_all k0 xs (by omega)] at h
        exact ⟨h.2.2, h.1, h.2.1⟩
      have hf : Hid (m = k0 + (sumBy cntKt xs : Nat)) := by
        have h := HM.out
        rwa [List.take_of_length_le (by omega)] at h
      go_wp2
      go_ret
      exact ⟨ret_int hf.out, HEnd.out⟩
end Go.Proofs.Ytilndhmegaccmaa

namespace Go.Proofs.Ytilndhmegaccmaa
open Go.RowKit

def cntDt (x : Dt) : Nat := 1 + sumBy cntKt x.ctors
def mkDt (k : Int) (x : Dt) : Dt := ⟨mtext (k), mkS mkKt cntKt (k + 1) x.ctors⟩
theorem cntDt_def (x : Dt) : cntDt x = 1 + sumBy cntKt x.ctors := rfl

theorem cntsTy_le (xs : List Ty) : sumBy cntTy xs ≤ 16 * Ty.sizes xs := by
  rw [cntsTy_len]; unfold Ty.sizes; omega
theorem cntsKt_le (xs : List Kt) : sumBy cntKt xs ≤ 16 * Kt.sizes xs := by
  induction xs with
  | nil => exact Nat.zero_le _
  | cons x xs ih =>
    have h := cntsTy_le x.args
    have h1 : cntKt x = 2 + sumBy cntTy x.args := rfl
    have h2 : Kt.size x = x.name.size + Ty.sizes x.args := rfl
    simp only [Kt.sizes, sumBy, List.length_cons] at ih ⊢
    omega
theorem cntsDt_le (xs : List Dt) : sumBy cntDt xs ≤ 16 * Dt.sizes xs := by
  induction xs with
  | nil => exact Nat.zero_le _
  | cons x xs ih =>
    have h := cntsKt_le x.ctors
    have h1 : cntDt x = 1 + sumBy cntKt x.ctors := rfl
    have h2 : Dt.size x = x.name.size + Kt.sizes x.ctors := rfl
    simp only [Dt.sizes, sumBy, List.length_cons] at ih ⊢
    omega

set_option maxRecDepth 100000 in
set_option maxHeartbeats 1600000 in
theorem markDataS_any (xs : List Dt) (w : World) (v : Value) (F : List Nat) (k0 : Int) (h0 : 0 ≤ k0) (hk : k0 + (sumBy cntDt xs : Nat) ≤ 1099511627776) (hx : Arr w (DtR w) xs v F) (hfr : Free w F) (hf : Under w.heap.size F) :
    Calls Try.prog 24 #[v, .int .i64 k0] w fun e w' => e = .returned (.int .i64 (k0 + (sumBy cntDt xs : Nat))) ∧ Chg F w w' ∧ Arr w' (DtR w') (mkS mkDt cntDt k0 xs) v F ∧ Free w' F := by
  have HX := Lib.hid (And.intro hx (And.intro hfr (Chg.refl F w)))
  obtain ⟨A, cap, rfl, hc1, hc2⟩ := hx.form
  have HF := Lib.hid hf
  have HK := Lib.hid hk

  clear hx hfr hf hk
  go_enter Try.func24, Try.ntmps24
  go_wp2
  go_loopw [1, 5] (fun kv iv wr => ∃ i : Nat, ∃ m : Int, i ≤ xs.length ∧ iv = .int .i64 i ∧ kv = .int .i64 m ∧ 0 ≤ m ∧ Hid (m = k0 + (sumBy cntDt (xs.take i) : Nat)) ∧ Hid (Arr wr (DtR wr) (mkTo mkDt cntDt k0 xs i) (.slice A xs.length cap) F ∧ Free wr F ∧ Chg F w wr)) (fun _ iv _ => xs.length - (intOf iv).toNat)
  case atStart => exact ⟨0, k0, Nat.zero_le _, rfl, rfl, h0, (by simp [Hid, sumBy]), HX⟩
  case round =>
    obtain ⟨i, m, hi, rfl, rfl, hm0, HM, HR⟩ := hrel
    by_cases hlt : i < xs.length
    · have g1 : (0 : Int) ≤ (i : Int) := by omega
      have g2 : (i : Int) < (xs.length : Int) := by omega
      obtain ⟨b, off, c, F1, F2, F3, cap', hv, hFe, hc, hr, hfr2, hnb, hbl, hfz, hu2, hclose⟩ := HR.out.1.focus (fun w => DtR_len (w := w)) (fun w w' x cs G hk h => DtR.mono (w := w) (w' := w') x cs G hk h) HR.out.2.1 (HF.out.mono HR.out.2.2.size) (i := i) (by rw [mkTo_length]; exact hlt)
      obtain rfl : A = some ⟨b, off, none⟩ := by injection hv
      rw [mkTo_get hlt] at hr

      have hsum : m + (cntDt xs[i] : Nat) ≤ 1099511627776 := by
        have h1 := HM.out
        have h2 := HK.out
        have h3 := sumBy_take_le cntDt xs (i + 1)
        rw [sumBy_take_succ cntDt xs i hlt] at h3
        omega
      have HCl := Lib.hid hclose
      have HHv := Lib.hid hv
      have HFe := Lib.hid hFe
      clear hclose hv hFe
      obtain ⟨kv, rfl, ha, hs0⟩ := hr
      obtain ⟨A1, cap1, rfl, -, -⟩ := ha.form
      have hcd := cntDt_def xs[i]
      rw [hcd] at hsum
      have x0 : wr.cell? ⟨b, off + i * 2, none⟩ = some (.string xs[i].name) := hc 0 _ rfl
      have x1 : wr.cell? ⟨b, off + i * 2 + 1, none⟩ = some (.slice A1 xs[i].ctors.length cap1) := hc 1 _ rfl
      clear hc
      have HA := Lib.hid ha
      have HFr2 := Lib.hid hfr2
      have HU2 := Lib.hid hu2
      have HNB := Lib.hid hnb
      clear ha hfr2 hu2 hnb
      have hsn : (0 : Int) ≤ (sumBy cntKt xs[i].ctors : Nat) := by omega
      generalize hsg : sumBy cntKt xs[i].ctors = s at *
      have HSG := Lib.hid hsg
      have HCD := Lib.hid hcd
      clear hsg hcd
      have HFz := Lib.hid hfz
      clear hfz
      have U0 := Lib.hid (Upd.refl b (off + i * 2) 2 F2 wr)
      have K0 := Lib.hid (Kept.refl F2 wr)
      have z0 : wr.frozen? ⟨b, off + i * 2, none⟩ = false := (U0.out.froz _).trans (HFz.out _)
      go_wp2_with fail
      refine (markText_any (m) _ (by omega) (by omega)).mono ?_
      rintro e v1 ⟨rfl, hb1⟩
      have hlE1 : b < wr.heap.size := Nat.lt_of_lt_of_le hbl U0.out.size
      have U1 := Lib.hid (U0.out.below hb1 hlE1)
      have K1 := Lib.hid (K0.out.step hb1 (HU2.out.mono U0.out.size))
      have y0 := (hb1.cell (p := ⟨b, off + i * 2, none⟩) hlE1).trans x0
      have y1 := (hb1.cell (p := ⟨b, off + i * 2 + 1, none⟩) hlE1).trans x1
      clear x0 x1 z0
      have x0 := y0
      have x1 := y1
      clear y0 y1
      have hb11 : b < v1.heap.size := Nat.lt_of_lt_of_le hbl U1.out.size
      have z0 : v1.frozen? ⟨b, off + i * 2, none⟩ = false := (U1.out.froz _).trans (HFz.out _)
      clear hb1 hlE1
      go_wp2_with fail
      have U2 := Lib.hid (U1.out.set (j := off + i * 2) (by omega) (by omega) (.string (mtext (m))))
      have K2 := Lib.hid (K1.out.set (b := b) (j := off + i * 2) (u := .string (mtext (m))) HNB.out)
      have y0 : (v1.setCell ⟨b, off + i * 2, none⟩ (.string (mtext (m)))).cell? ⟨b, off + i * 2, none⟩ = some (.string (mtext (m))) := World.cell?_setCell_same _ _ _ x0
      have y1 := (World.cell?_setCell_other _ ⟨b, off + i * 2, none⟩ ⟨b, off + i * 2 + 1, none⟩ (.string (mtext (m))) (by intro e; injection e; omega)).trans x1
      clear x0 x1
      have x0 := y0
      have x1 := y1
      clear y0 y1
      refine (markCtorS_any xs[i].ctors _ _ F2 (m + 1) (by omega) (by rw [HSG.out]; omega) (HA.out.mono K2.out (fun x _ cs G hk h => (fun w w' x cs G hk h => KtR.mono (w := w) (w' := w') x cs G hk h) _ _ x cs G hk h)) (HFr2.out.kept K2.out) (HU2.out.mono U2.out.size)).mono ?_
      rintro e v2 ⟨rfl, hg2, hm2, hfr2⟩
      have hlE2 : b < (v1.setCell ⟨b, off + i * 2, none⟩ (.string (mtext (m)))).heap.size := Nat.lt_of_lt_of_le hbl U2.out.size
      have U3 := Lib.hid (U2.out.sub hg2 HNB.out hlE2)
      have y0 := (World.cell?_of_block (w := (v1.setCell ⟨b, off + i * 2, none⟩ (.string (mtext (m))))) (a := ⟨b, off + i * 2, none⟩) (hg2.block b hlE2 HNB.out)).trans x0
      have y1 := (World.cell?_of_block (w := (v1.setCell ⟨b, off + i * 2, none⟩ (.string (mtext (m))))) (a := ⟨b, off + i * 2 + 1, none⟩) (hg2.block b hlE2 HNB.out)).trans x1
      clear x0 x1 z0
      have x0 := y0
      have x1 := y1
      clear y0 y1
      have hb12 : b < v2.heap.size := Nat.lt_of_lt_of_le hbl U3.out.size
      have z0 : v2.frozen? ⟨b, off + i * 2, none⟩ = false := (U3.out.froz _).trans (HFz.out _)
      have HMk := Lib.hid hm2
      have HFrk := Lib.hid hfr2
      have hgs2 := hg2.size
      clear hm2 hfr2 hg2 hlE2
      have K3 := Lib.hid (Kept.refl F2 v2)
      rw [HSG.out]
      have X0 := Lib.hid x0
      have X1 := Lib.hid x1
      have hfin := HCl.out v2 (mkDt m xs[i]) _ U3.out (CellsAt.cons X0.out (CellsAt.cons X1.out (CellsAt.nil _ _ _))) (by obtain rfl := HSG.out; exact ⟨_, rfl, (HMk.out.mono K3.out (fun x _ cs G hk h => (fun w w' x cs G hk h => KtR.mono (w := w) (w' := w') x cs G hk h) _ _ x cs G hk h)), mtext_le _ (by omega) (by omega)⟩) (HFrk.out.kept K3.out)
      have hst : (mkTo mkDt cntDt k0 xs i).set i (mkDt m xs[i]) = mkTo mkDt cntDt k0 xs (i + 1) := by rw [HM.out]; exact mkTo_step hlt
      rw [hst] at hfin
      clear hst
      have HFin := Lib.hid (And.intro hfin.1 (And.intro hfin.2.1 (HR.out.2.2.trans hfin.2.2)))
      clear hfin
      have HM2 : Hid (m + 1 + (s : Int) = k0 + (sumBy cntDt (xs.take (i + 1)) : Nat)) := by
        have h1 := HM.out
        have h2 := HCD.out
        unfold Hid
        rw [sumBy_take_succ cntDt xs i hlt]
        omega
      go_wp2
      go_roundw
      case rel => exact ⟨i + 1, m + 1 + (s : Int), by omega, by go_num, rfl, by omega, HM2, HFin.out⟩
      case measure => (simp [intOf] <;> omega)
    · have HEnd : Hid (Chg F w wr ∧ Arr wr (DtR wr) (mkS mkDt cntDt k0 xs) (.slice A xs.length cap) F ∧ Free wr F) := by
        have h := HR.out
        rw [mkTo_all k0 xs (by omega)] at h
        exact ⟨h.2.2, h.1, h.2.1⟩
      have hf : Hid (m = k0 + (sumBy cntDt xs : Nat)) := by
        have h := HM.out
        rwa [List.take_of_length_le (by omega)] at h
      go_wp2
      go_ret
      exact ⟨ret_int hf.out, HEnd.out⟩
end Go.Proofs.Ytilndhmegaccmaa

namespace Go.Proofs.Ytilndhmegaccmaa
open Go.RowKit

/-- contract of heldValueS at a node's parts -/
def HeldV (x : V) : Prop := ∀ (w : World) (v : Value) (F : List Nat) (k0 : Int), 0 ≤ k0 → k0 + (sumBy cntV x.ks : Nat) ≤ 1099511627776 → Arr w (VR w) (mkS mkV cntV k0 x.ks) v F → Under w.heap.size F →
  Calls Try.prog 26 #[v, .int .i64 k0] w fun e w' => e = .returned (.int .i64 (k0 + (sumBy cntV x.ks : Nat))) ∧ Below w.heap.size w w'

set_option maxRecDepth 100000 in
set_option maxHeartbeats 1600000 in
theorem heldValueS_of (xs : List V) (ih : ∀ x ∈ xs, HeldV x) (w : World) (v : Value) (F : List Nat) (k0 : Int) (h0 : 0 ≤ k0) (hk : k0 + (sumBy cntV xs : Nat) ≤ 1099511627776) (hx : Arr w (VR w) (mkS mkV cntV k0 xs) v F) (hf : Under w.heap.size F) :
    Calls Try.prog 26 #[v, .int .i64 k0] w fun e w' => e = .returned (.int .i64 (k0 + (sumBy cntV xs : Nat))) ∧ Below w.heap.size w w' := by
  obtain ⟨A, cap, rfl, hc1, hc2⟩ := hx.form
  rw [mkS_length] at hx hc1
  rw [mkS_length]
  have HX := Lib.hid hx
  have HF := Lib.hid hf
  have HK := Lib.hid hk
  have IH := Lib.hid ih
  clear hx hf hk ih
  go_enter Try.func26, Try.ntmps26
  go_wp2
  go_loopw [1, 5] (fun kv iv wr => ∃ i : Nat, ∃ m : Int, i ≤ xs.length ∧ iv = .int .i64 i ∧ kv = .int .i64 m ∧ 0 ≤ m ∧ Hid (m = k0 + (sumBy cntV (xs.take i) : Nat)) ∧ Below w.heap.size w wr) (fun _ iv _ => xs.length - (intOf iv).toNat)
  case atStart => exact ⟨0, k0, Nat.zero_le _, rfl, rfl, h0, (by simp [Hid, sumBy]), Below.refl _ _⟩
  case round =>
    obtain ⟨i, m, hi, rfl, rfl, hm0, HM, hB⟩ := hrel
    by_cases hlt : i < xs.length
    · have g1 : (0 : Int) ≤ (i : Int) := by omega
      have g2 : (i : Int) < (xs.length : Int) := by omega
      obtain ⟨b, off, c, F2, rfl, hb, hc, hr, hG⟩ := HX.out.get ((fun w => VR_len (w := w)) _) (i := i) (by rw [mkS_length]; exact hlt)
      have hge : (mkS mkV cntV k0 xs)[i]'(by rw [mkS_length]; exact hlt) = mkV m xs[i] := by
        have h := mkS_get (mk := mkV) (cnt := cntV) (k := k0) hlt
        rw [← HM.out, List.getElem?_eq_getElem (by rw [mkS_length]; exact hlt)] at h
        exact Option.some.inj h
      rw [hge] at hr
      clear hge

      have hbl := HF.out b hb
      have hc := hc.same (hB.block b hbl)
      have hu2 := HF.out.sub hG
      clear hG hb
      have hbw := Nat.lt_of_lt_of_le hbl hB.size
      have hsum : m + (cntV xs[i] : Nat) ≤ 1099511627776 := by
        have h1 := HM.out
        have h2 := HK.out
        have h3 := sumBy_take_le cntV xs (i + 1)
        rw [sumBy_take_succ cntV xs i hlt] at h3
        omega
      rw [mkV_def] at hr
      obtain ⟨kv, rfl, ha⟩ := (VR_iff _ _ _).1 hr
      obtain ⟨A1, cap1, rfl, -, -⟩ := ha.form
      have hcd := cntV_def xs[i]
      rw [hcd] at hsum
      simp only [mkS_length] at hc
      have x0 : wr.cell? ⟨b, off + i * 3, none⟩ = some (.int .i64 (m)) := hc 0 _ rfl
      have x1 : wr.cell? ⟨b, off + i * 3 + 1, none⟩ = some (.int .i64 (m + 1)) := hc 1 _ rfl
      have x2 : wr.cell? ⟨b, off + i * 3 + 2, none⟩ = some (.slice A1 xs[i].ks.length cap1) := hc 2 _ rfl
      clear hc
      simp only [mkS_length] at ha
      have HA := Lib.hid ha
      have HU2 := Lib.hid hu2
      clear ha hu2
      have hsn : (0 : Int) ≤ (sumBy cntV xs[i].ks : Nat) := by omega
      generalize hsg : sumBy cntV xs[i].ks = s at *
      have HSG := Lib.hid hsg
      have HCD := Lib.hid hcd
      clear hsg hcd
      go_wp2_with fail
      refine (IH.out _ (List.getElem_mem hlt) _ _ F2 (m + 1 + 1) (by omega) (by rw [HSG.out]; omega) (HA.out.mono (.of_below hB HU2.out) (fun x _ cs G hk h => (fun w w' x cs G hk h => VR.mono (w := w) (w' := w') x cs G hk h) _ _ x cs G hk h)) (HU2.out.mono hB.size)).mono ?_
      rintro e v1 ⟨rfl, hb1⟩
      rw [HSG.out]
      have y0 := (hb1.cell (p := ⟨b, off + i * 3, none⟩) hbw).trans x0
      have y1 := (hb1.cell (p := ⟨b, off + i * 3 + 1, none⟩) hbw).trans x1
      have y2 := (hb1.cell (p := ⟨b, off + i * 3 + 2, none⟩) hbw).trans x2
      clear x0 x1 x2
      have x0 := y0
      have x1 := y1
      have x2 := y2
      clear y0 y1 y2
      have hB1 := hB.trans (hb1.mono hB.size)
      have hbw := Nat.lt_of_lt_of_le hbw hb1.size
      clear hb1
      have HM2 : Hid (m + 1 + 1 + (s : Int) = k0 + (sumBy cntV (xs.take (i + 1)) : Nat)) := by
        have h1 := HM.out
        have h2 := HCD.out
        unfold Hid
        rw [sumBy_take_succ cntV xs i hlt]
        omega
      have hnn : 0 ≤ m + 1 + 1 + (s : Int) := by omega
      go_wp2
      go_roundw
      case rel => exact ⟨i + 1, m + 1 + 1 + (s : Int), by omega, by go_num, rfl, by omega, HM2, hB1⟩
      case measure => (simp [intOf] <;> omega)
    · have hf : Hid (m = k0 + (sumBy cntV xs : Nat)) := by
        have h := HM.out
        rwa [List.take_of_length_le (by omega)] at h
      go_wp2
      go_ret
      exact ⟨ret_int hf.out, hB⟩

theorem heldV_all : ∀ x, HeldV x := V.ind fun a0 a1 ks ih w v F k0 h0 hk hx hf => heldValueS_of ks ih w v F k0 h0 hk hx hf
theorem heldValueS_any (xs : List V) (w : World) (v : Value) (F : List Nat) (k0 : Int) (h0 : 0 ≤ k0) (hk : k0 + (sumBy cntV xs : Nat) ≤ 1099511627776) (hx : Arr w (VR w) (mkS mkV cntV k0 xs) v F) (hf : Under w.heap.size F) :
    Calls Try.prog 26 #[v, .int .i64 k0] w fun e w' => e = .returned (.int .i64 (k0 + (sumBy cntV xs : Nat))) ∧ Below w.heap.size w w' := heldValueS_of xs (fun x _ => heldV_all x) w v F k0 h0 hk hx hf

end Go.Proofs.Ytilndhmegaccmaa

namespace Go.Proofs.Ytilndhmegaccmaa
open Go.ChangeShapes Go.WideShapes Go.ChangeAt Go.RowKit

section
variable {H : Type} {enc : TypeId × Value → H} {P : Program} {w : World} {base : Nat} {spare : Nat → Bool} {held : Bool}

theorem cell_lt {w : World} {a : Addr} {v : Value} (h : w.cell? a = some v) : a.block < w.heap.size := by
  rcases Nat.lt_or_ge a.block w.heap.size with hl | hl
  · exact hl
  · unfold World.cell? at h
    rw [Array.getElem?_eq_none hl] at h
    cases h

theorem open_Arr {α : Type} (R : α → List Value → List Nat → Prop) {t e : TypeId} {k n fuel : Nat} {cs : List Value} {x : DataW H × List MemPlace} (ht : P.underlying t = some (.slice e)) (hk : P.cellsOf e = k) (hk0 : 0 < k) (hf : fuel = n + 1)
    (hR : ∀ ds y, DataW.trod enc P w base spare held n e ds = some y → ds.length = k → ∃ a F, R a ds F ∧ Under w.heap.size F)
    (h : DataW.trod enc P w base spare held fuel t cs = some x) : ∃ xs v F, cs = [v] ∧ Arr w R xs v F ∧ Under w.heap.size F := by
  subst hf
  rcases DataW.trod_slice ht h with ⟨rfl, -⟩ | ⟨a, len, cap, elems, rest, m, hm, rfl, -, -, hl, hmax, hlen, hel, -, -⟩
  · exact ⟨[], _, [], rfl, Arr.nil, Under.nil _⟩
  · obtain rfl : n = m := by omega
    by_cases h0 : len = 0
    · subst h0
      exact ⟨[], _, [], rfl, ⟨_, _, rfl, hl, hmax, .inl ⟨rfl, rfl⟩⟩, Under.nil _⟩
    · have get : ∀ i, i < len → ∃ ds y, (∀ j, j < k → w.cell? (a.add (i * k + j)) = ds[j]?) ∧ ds.length = k ∧ DataW.trod enc P w base spare held n e ds = some y := fun i hi => by
        have h1 := hel i hi
        rw [List.getElem?_eq_getElem (by omega), Option.bind_eq_some_iff] at h1
        obtain ⟨ds, h2, h3⟩ := h1
        obtain ⟨-, h4, h5⟩ := World.cells?_some h2
        rw [hk] at h4 h5
        refine ⟨ds, _, fun j hj => ?_, h4, h3⟩
        rw [← h5 j hj]
        congr 1
        unfold Addr.add
        by_cases e1 : i * k = 0 <;> by_cases e2 : j = 0 <;> simp [e1, e2, Nat.add_assoc]
      obtain ⟨b, off, spot⟩ := a
      obtain ⟨ds0, y0, g1, g2, -⟩ := get 0 (by omega)
      have hc0 : w.cell? ⟨b, off, spot⟩ = some (ds0[0]'(by omega)) := by
        have := g1 0 hk0
        simpa [Addr.add, List.getElem?_eq_getElem (show 0 < ds0.length by omega)] using this
      have hspot : spot = none := by simpa using World.cell?_spot hc0
      subst hspot
      have hb : b < w.heap.size := cell_lt hc0
      have key : ∀ m, m ≤ len → ∃ (xs : List α) (cs : List Value) (F : List Nat), xs.length = m ∧ cs.length = m * k ∧ CellsAt w b off cs ∧ Flat R xs cs F ∧ Under w.heap.size F := by
        intro m
        induction m with
        | zero => intro _; exact ⟨[], [], [], rfl, by simp, fun j u hj => by simp at hj, ⟨rfl, rfl⟩, Under.nil _⟩
        | succ m ih =>
          intro hm
          obtain ⟨xs, cs, F, h1, h2, h3, h4, h5⟩ := ih (by omega)
          obtain ⟨ds, y, g1, g2, g3⟩ := get m (by omega)
          obtain ⟨z, G, r1, r2⟩ := hR ds y g3 g2
          refine ⟨xs ++ [z], cs ++ ds, F ++ G, by simp [h1], by simp [h2, g2, Nat.add_mul], h3.append (fun j u hj => ?_), h4.append (Flat.one r1), fun c hc => ?_⟩
          · have hjk : j < k := by rw [← g2]; exact (List.getElem?_eq_some_iff.1 hj).1
            have := g1 j hjk
            rw [hj, Addr.add_lit] at this
            rw [h2, ← this]
            congr 2
            omega
          · rcases List.mem_append.1 hc with hc | hc
            · exact h5 c hc
            · exact r2 c hc
      obtain ⟨xs, cs, F, h1, h2, h3, h4, h5⟩ := key len (Nat.le_refl _)
      refine ⟨xs, _, b :: F, rfl, ⟨_, _, by rw [h1], by omega, hmax, .inr ⟨b, off, cs, F, rfl, h3, h4, rfl⟩⟩, fun c hc => ?_⟩
      rcases List.mem_cons.1 hc with rfl | hc
      · exact hb
      · exact h5 c hc

theorem one_field {fs : Array Field} {n : Nat} {cs : List Value} {xs : List (DataW H × List MemPlace)}
    (hf : ∀ (i : Nat) (f : Field), fs[i]? = some f → DataW.trod enc P w base spare held n f.type ((cs.drop f.offset).take (P.cellsOf f.type)) = xs[i]?)
    (hone : Deep.oneCellFields P fs = true) (hxl : xs.length = fs.size) (i : Nat) (f : Field) (hi : fs[i]? = some f) (c : Value) (hc : cs[i]? = some c) :
    ∃ y, DataW.trod enc P w base spare held n f.type [c] = some y := by
  obtain ⟨h1, h2⟩ := Deep.hone_of hone i f hi
  have h := hf i f hi
  have hlt : i < fs.size := (Array.getElem?_eq_some_iff.1 hi).1
  rw [List.getElem?_eq_getElem (show i < xs.length by omega), h1, h2] at h
  obtain ⟨hlc, hcc⟩ := List.getElem?_eq_some_iff.1 hc
  rw [List.drop_eq_getElem_cons hlc, hcc] at h
  exact ⟨_, h⟩

theorem sub_field {fs : Array Field} {n : Nat} {cs : List Value} {xs : List (DataW H × List MemPlace)}
    (hf : ∀ (i : Nat) (f : Field), fs[i]? = some f → DataW.trod enc P w base spare held n f.type ((cs.drop f.offset).take (P.cellsOf f.type)) = xs[i]?)
    (hxl : xs.length = fs.size) (i : Nat) (f : Field) (hi : fs[i]? = some f) (k off : Nat) (hk : P.cellsOf f.type = k) (ho : f.offset = off) :
    ∃ y, DataW.trod enc P w base spare held n f.type ((cs.drop off).take k) = some y := by
  have h := hf i f hi
  have hlt : i < fs.size := (Array.getElem?_eq_some_iff.1 hi).1
  rw [List.getElem?_eq_getElem (show i < xs.length by omega), hk, ho] at h
  exact ⟨_, h⟩

theorem open_slice_arg {α : Type} (R : α → List Value → List Nat → Prop) {t e : TypeId} {k : Nat} {r : Reach} {b0 : Nat} {v : Value} {d : DataW H} {ps : List MemPlace} (ht : P.underlying t = some (.slice e)) (hk : P.cellsOf e = k) (hk0 : 0 < k)
    (hR : ∀ n ds y, DataW.trod enc P w base spare held n e ds = some y → ∃ a F, R a ds F ∧ Under w.heap.size F)
    (hval : Value.okWide P w r b0 t v) (h : DataW.Trod enc P w base spare held t v d ps) : ∃ xs F, Arr w R xs v F ∧ Under w.heap.size F := by
  obtain ⟨a, len, cap, rfl⟩ := okWide_slice ht hval
  obtain ⟨fuel, hf⟩ := h
  cases fuel with
  | zero => simp [DataW.trod] at hf
  | succ n =>
    obtain ⟨xs, v, F, hv, ha, hF⟩ := open_Arr R ht hk hk0 rfl (fun ds y hd _ => hR n ds y hd) hf
    have : v = .slice a len cap := by simpa [Value.cells] using hv.symm
    subst this
    exact ⟨xs, F, ha, hF⟩
end
end Go.Proofs.Ytilndhmegaccmaa

namespace Go.Proofs.Ytilndhmegaccmaa
open Go.ChangeShapes Go.WideShapes Go.ChangeAt Go.RowKit
set_option maxRecDepth 100000

theorem cellsOf_lawsTy : Try.prog.cellsOf 37 = 2 := by kernel_rfl

theorem open_Ty_cells {H : Type} {enc : TypeId × Value → H} {w : World} {base : Nat} {spare : Nat → Bool} {held : Bool} (fuel : Nat) (cs : List Value) (x : DataW H × List MemPlace)
    (h : DataW.trod enc Try.prog w base spare held fuel 37 cs = some x) : ∃ v F, TyR w v cs F ∧ Under w.heap.size F := by
  obtain ⟨xs, n, rfl, -, hl, hxl, hf⟩ := DataW.trod_struct Try.underlying37 h
  rw [cellsOf_lawsTy] at hl
  match cs, hl with
  | [c0, c1], _ =>
  obtain ⟨y0, f0⟩ := sub_field hf hxl 0 _ rfl 1 0 (by kernel_rfl) rfl
  obtain ⟨i0, e0, -, -⟩ := DataW.trod_int Try.underlying3 f0
  obtain rfl : c0 = .int .i64 i0 := by simpa using e0
  obtain ⟨y1, f1⟩ := sub_field hf hxl 1 _ rfl 1 1 (by kernel_rfl) rfl
  obtain ⟨i1, e1, -, -⟩ := DataW.trod_int Try.underlying3 f1
  obtain rfl : c1 = .int .i64 i1 := by simpa using e1
  exact ⟨⟨i0, i1⟩, [], ⟨rfl, rfl⟩, Under.nil _⟩

theorem open_Ty {H : Type} {enc : TypeId × Value → H} {w : World} {base : Nat} {spare : Nat → Bool} {held : Bool} {r : Reach} {b0 : Nat} {v : Value} {d : DataW H} {ps : List MemPlace} (hval : Value.okWide Try.prog w r b0 37 v)
    (h : DataW.Trod enc Try.prog w base spare held 37 v d ps) : ∃ (x : Ty) (cs : List Value) (F : List Nat), v = .agg cs.toArray ∧ TyR w x cs F ∧ Under w.heap.size F := by
  obtain ⟨cs, rfl, -⟩ := okWide_struct Try.underlying37 hval
  obtain ⟨fuel, hf⟩ := h
  obtain ⟨x, F, h1, h2⟩ := open_Ty_cells fuel _ _ hf
  exact ⟨x, cs.toList, F, by simp, h1, h2⟩
theorem open_Tys {H : Type} {enc : TypeId × Value → H} {w : World} {base : Nat} {spare : Nat → Bool} {held : Bool} {r : Reach} {b0 : Nat} {v : Value} {d : DataW H} {ps : List MemPlace} (hval : Value.okWide Try.prog w r b0 179 v)
    (h : DataW.Trod enc Try.prog w base spare held 179 v d ps) : ∃ (x : List Ty) (F : List Nat), Arr w (TyR w) x v F ∧ Under w.heap.size F :=
  open_slice_arg (TyR w) Try.underlying179 cellsOf_lawsTy (by decide) (fun n ds y hd => open_Ty_cells n ds y hd) hval h
end Go.Proofs.Ytilndhmegaccmaa

namespace Go.Proofs.Ytilndhmegaccmaa
open Go.ChangeShapes Go.WideShapes Go.ChangeAt Go.RowKit
set_option maxRecDepth 100000

theorem cellsOf_lawsKt : Try.prog.cellsOf 181 = 3 := by kernel_rfl

theorem open_Kt_cells {H : Type} {enc : TypeId × Value → H} {w : World} {base : Nat} {spare : Nat → Bool} {held : Bool} (fuel : Nat) (cs : List Value) (x : DataW H × List MemPlace)
    (h : DataW.trod enc Try.prog w base spare held fuel 181 cs = some x) : ∃ v F, KtR w v cs F ∧ Under w.heap.size F := by
  obtain ⟨xs, n, rfl, -, hl, hxl, hf⟩ := DataW.trod_struct Try.underlying181 h
  rw [cellsOf_lawsKt] at hl
  match cs, hl with
  | [c0, c1, c2], _ =>
  obtain ⟨y0, f0⟩ := sub_field hf hxl 0 _ rfl 1 0 (by kernel_rfl) rfl
  obtain ⟨s0, e0, -, hs0⟩ := DataW.trod_string Try.underlying9 f0
  obtain rfl : c0 = .string s0 := by simpa using e0
  obtain ⟨y1, f1⟩ := sub_field hf hxl 1 _ rfl 1 1 (by kernel_rfl) rfl
  cases n with
  | zero => simp [DataW.trod] at f1
  | succ n =>
  obtain ⟨l1, kv, F, ek, ha, hF⟩ := open_Arr (TyR w) Try.underlying179 cellsOf_lawsTy (by decide) rfl (fun ds y hd _ => open_Ty_cells n ds y hd) f1
  obtain rfl : c1 = kv := by simpa using ek
  obtain ⟨y2, f2⟩ := sub_field hf hxl 2 _ rfl 1 2 (by kernel_rfl) rfl
  obtain ⟨i2, e2, -, -⟩ := DataW.trod_int Try.underlying3 f2
  obtain rfl : c2 = .int .i64 i2 := by simpa using e2
  exact ⟨⟨s0, l1, i2⟩, F, ⟨_, rfl, ha, (by unfold maxLen at hs0; omega)⟩, hF⟩

theorem open_Kt {H : Type} {enc : TypeId × Value → H} {w : World} {base : Nat} {spare : Nat → Bool} {held : Bool} {r : Reach} {b0 : Nat} {v : Value} {d : DataW H} {ps : List MemPlace} (hval : Value.okWide Try.prog w r b0 181 v)
    (h : DataW.Trod enc Try.prog w base spare held 181 v d ps) : ∃ (x : Kt) (cs : List Value) (F : List Nat), v = .agg cs.toArray ∧ KtR w x cs F ∧ Under w.heap.size F := by
  obtain ⟨cs, rfl, -⟩ := okWide_struct Try.underlying181 hval
  obtain ⟨fuel, hf⟩ := h
  obtain ⟨x, F, h1, h2⟩ := open_Kt_cells fuel _ _ hf
  exact ⟨x, cs.toList, F, by simp, h1, h2⟩
theorem open_Kts {H : Type} {enc : TypeId × Value → H} {w : World} {base : Nat} {spare : Nat → Bool} {held : Bool} {r : Reach} {b0 : Nat} {v : Value} {d : DataW H} {ps : List MemPlace} (hval : Value.okWide Try.prog w r b0 90 v)
    (h : DataW.Trod enc Try.prog w base spare held 90 v d ps) : ∃ (x : List Kt) (F : List Nat), Arr w (KtR w) x v F ∧ Under w.heap.size F :=
  open_slice_arg (KtR w) Try.underlying90 cellsOf_lawsKt (by decide) (fun n ds y hd => open_Kt_cells n ds y hd) hval h
end Go.Proofs.Ytilndhmegaccmaa

namespace Go.Proofs.Ytilndhmegaccmaa
open Go.ChangeShapes Go.WideShapes Go.ChangeAt Go.RowKit
set_option maxRecDepth 100000

theorem cellsOf_lawsDt : Try.prog.cellsOf 92 = 2 := by kernel_rfl

theorem open_Dt_cells {H : Type} {enc : TypeId × Value → H} {w : World} {base : Nat} {spare : Nat → Bool} {held : Bool} (fuel : Nat) (cs : List Value) (x : DataW H × List MemPlace)
    (h : DataW.trod enc Try.prog w base spare held fuel 92 cs = some x) : ∃ v F, DtR w v cs F ∧ Under w.heap.size F := by
  obtain ⟨xs, n, rfl, -, hl, hxl, hf⟩ := DataW.trod_struct Try.underlying92 h
  rw [cellsOf_lawsDt] at hl
  match cs, hl with
  | [c0, c1], _ =>
  obtain ⟨y0, f0⟩ := sub_field hf hxl 0 _ rfl 1 0 (by kernel_rfl) rfl
  obtain ⟨s0, e0, -, hs0⟩ := DataW.trod_string Try.underlying9 f0
  obtain rfl : c0 = .string s0 := by simpa using e0
  obtain ⟨y1, f1⟩ := sub_field hf hxl 1 _ rfl 1 1 (by kernel_rfl) rfl
  cases n with
  | zero => simp [DataW.trod] at f1
  | succ n =>
  obtain ⟨l1, kv, F, ek, ha, hF⟩ := open_Arr (KtR w) Try.underlying90 cellsOf_lawsKt (by decide) rfl (fun ds y hd _ => open_Kt_cells n ds y hd) f1
  obtain rfl : c1 = kv := by simpa using ek
  exact ⟨⟨s0, l1⟩, F, ⟨_, rfl, ha, (by unfold maxLen at hs0; omega)⟩, hF⟩

theorem open_Dt {H : Type} {enc : TypeId × Value → H} {w : World} {base : Nat} {spare : Nat → Bool} {held : Bool} {r : Reach} {b0 : Nat} {v : Value} {d : DataW H} {ps : List MemPlace} (hval : Value.okWide Try.prog w r b0 92 v)
    (h : DataW.Trod enc Try.prog w base spare held 92 v d ps) : ∃ (x : Dt) (cs : List Value) (F : List Nat), v = .agg cs.toArray ∧ DtR w x cs F ∧ Under w.heap.size F := by
  obtain ⟨cs, rfl, -⟩ := okWide_struct Try.underlying92 hval
  obtain ⟨fuel, hf⟩ := h
  obtain ⟨x, F, h1, h2⟩ := open_Dt_cells fuel _ _ hf
  exact ⟨x, cs.toList, F, by simp, h1, h2⟩
theorem open_Dts {H : Type} {enc : TypeId × Value → H} {w : World} {base : Nat} {spare : Nat → Bool} {held : Bool} {r : Reach} {b0 : Nat} {v : Value} {d : DataW H} {ps : List MemPlace} (hval : Value.okWide Try.prog w r b0 36 v)
    (h : DataW.Trod enc Try.prog w base spare held 36 v d ps) : ∃ (x : List Dt) (F : List Nat), Arr w (DtR w) x v F ∧ Under w.heap.size F :=
  open_slice_arg (DtR w) Try.underlying36 cellsOf_lawsDt (by decide) (fun n ds y hd => open_Dt_cells n ds y hd) hval h
end Go.Proofs.Ytilndhmegaccmaa
