/-
  Lemmas and contracts of functions: markValueS: every part is written anew. Conditions: the parts are no more than 1099511627776. heldPatternS: what mark wrote is there. Conditions: the parts are no more than 1099511627776. A Value that comes in as an argument lies in memory as the plain data say. Conditions: none.
-/
import Derived.Test.YtbffkgfhcmigaaaKAC
import Derived.Test.YtbffkgfhcmigaaaKAH
import Derived.Deep.RegionWith
import Derived.Test.YtbffkgfhcmigaaaChecked

set_option linter.unusedVariables false
set_option linter.unusedSimpArgs false

namespace Go.Proofs.Ytbffkgfhcmigaaa
open Go.RowKit

mutual
def cntV : V → Nat
  | ⟨_, _, ks⟩ => 2 + cntsV ks
def cntsV : List V → Nat
  | [] => 0
  | x :: xs => cntV x + cntsV xs
end
mutual
def mkV (k : Int) : V → V
  | ⟨_, _, ks⟩ => ⟨k, k + 1, mksV (k + 1 + 1) ks⟩
def mksV (k : Int) : List V → List V
  | [] => []
  | x :: xs => mkV k x :: mksV (k + cntV x) xs
end
theorem cntsV_eq (xs : List V) : cntsV xs = sumBy cntV xs := by
  induction xs with
  | nil => rfl
  | cons x xs ih => rw [cntsV, sumBy, ih]
theorem mksV_eq (xs : List V) : ∀ k, mksV k xs = mkS mkV cntV k xs := by
  induction xs with
  | nil => intro k; rfl
  | cons x xs ih => intro k; rw [mksV, mkS, ih]
theorem cntV_def (x : V) : cntV x = 2 + sumBy cntV x.ks := by obtain ⟨a0, a1, ks⟩ := x; rw [cntV, cntsV_eq]
theorem mkV_def (k : Int) (x : V) : mkV k x = ⟨k, k + 1, mkS mkV cntV (k + 1 + 1) x.ks⟩ := by obtain ⟨a0, a1, ks⟩ := x; rw [mkV, mksV_eq]

theorem cntsV_le (xs : List V) : sumBy cntV xs ≤ 16 * V.sizes xs := by
  have h : ∀ x : V, cntV x ≤ 16 + 16 * x.size := V.ind fun a0 a1 ks ih => by
    have h2 : ∀ l : List V, (∀ x ∈ l, cntV x ≤ 16 + 16 * x.size) → sumBy cntV l ≤ 16 * V.sizes l := by
      intro l
      induction l with
      | nil => intro _; exact Nat.zero_le _
      | cons x l ih2 =>
        intro hl
        have h3 := ih2 fun y hy => hl y (by simp [hy])
        have h4 := hl x (by simp)
        simp only [sumBy, V.sizes]
        omega
    have h5 := h2 ks ih
    rw [cntV_def]
    show _ ≤ 16 + 16 * V.sizes ks
    simp only
    omega
  induction xs with
  | nil => exact Nat.zero_le _
  | cons x xs ih =>
    have h1 := h x
    simp only [sumBy, V.sizes]
    omega

/-- contract of markValueS at a node's parts -/
def MarkV (x : V) : Prop := ∀ (w : World) (v : Value) (F : List Nat) (k0 : Int), 0 ≤ k0 → k0 + (sumBy cntV x.ks : Nat) ≤ 1099511627776 → Arr w (VR w) x.ks v F → Free w F → Under w.heap.size F →
  Calls Try.prog 80 #[v, .int .i64 k0] w fun e w' => e = .returned (.int .i64 (k0 + (sumBy cntV x.ks : Nat))) ∧ Chg F w w' ∧ Arr w' (VR w') (mkS mkV cntV k0 x.ks) v F ∧ Free w' F

set_option maxRecDepth 100000 in
set_option maxHeartbeats 1600000 in
theorem markValueS_of (xs : List V) (ih : ∀ x ∈ xs, MarkV x) (w : World) (v : Value) (F : List Nat) (k0 : Int) (h0 : 0 ≤ k0) (hk : k0 + (sumBy cntV xs : Nat) ≤ 1099511627776) (hx : Arr w (VR w) xs v F) (hfr : Free w F) (hf : Under w.heap.size F) :
    Calls Try.prog 80 #[v, .int .i64 k0] w fun e w' => e = .returned (.int .i64 (k0 + (sumBy cntV xs : Nat))) ∧ Chg F w w' ∧ Arr w' (VR w') (mkS mkV cntV k0 xs) v F ∧ Free w' F := by
  have HX := Lib.hid (And.intro hx (And.intro hfr (Chg.refl F w)))
  obtain ⟨A, cap, rfl, hc1, hc2⟩ := hx.form
  have HF := Lib.hid hf
  have HK := Lib.hid hk
  have IH := Lib.hid ih
  clear hx hfr hf hk ih
  go_enter Try.func80, Try.ntmps80
  go_wp2
  go_loopw [1, 5] (fun kv iv wr => ∃ i : Nat, ∃ m : Int, i ≤ xs.length ∧ iv = .int .i64 i ∧ kv = .int .i64 m ∧ 0 ≤ m ∧ Hid (m = k0 + (sumBy cntV (xs.take i) : Nat)) ∧ Hid (Arr wr (VR wr) (mkTo mkV cntV k0 xs i) (.slice A xs.length cap) F ∧ Free wr F ∧ Chg F w wr)) (fun _ iv _ => xs.length - (intOf iv).toNat)
  case atStart => exact ⟨0, k0, Nat.zero_le _, rfl, rfl, h0, (by simp [Hid, sumBy]), HX⟩
  case round =>
    obtain ⟨i, m, hi, rfl, rfl, hm0, HM, HR⟩ := hrel
    by_cases hlt : i < xs.length
    · have g1 : (0 : Int) ≤ (i : Int) := by omega
      have g2 : (i : Int) < (xs.length : Int) := by omega
      obtain ⟨b, off, c, F1, F2, F3, cap', hv, hFe, hc, hr, hfr2, hnb, hbl, hfz, hu2, hclose⟩ := HR.out.1.focus (fun w => VR_len (w := w)) (fun w w' x cs G hk h => VR.mono (w := w) (w' := w') x cs G hk h) HR.out.2.1 (HF.out.mono HR.out.2.2.size) (i := i) (by rw [mkTo_length]; exact hlt)
      obtain rfl : A = some ⟨b, off, none⟩ := by injection hv
      rw [mkTo_get hlt] at hr

      have hsum : m + (cntV xs[i] : Nat) ≤ 1099511627776 := by
        have h1 := HM.out
        have h2 := HK.out
        have h3 := sumBy_take_le cntV xs (i + 1)
        rw [sumBy_take_succ cntV xs i hlt] at h3
        omega
      have HCl := Lib.hid hclose
      have HHv := Lib.hid hv
      have HFe := Lib.hid hFe
      clear hclose hv hFe
      obtain ⟨kv, rfl, ha⟩ := (VR_iff _ _ _).1 hr
      obtain ⟨A1, cap1, rfl, -, -⟩ := ha.form
      have hcd := cntV_def xs[i]
      rw [hcd] at hsum
      have x0 : wr.cell? ⟨b, off + i * 3, none⟩ = some (.int .i64 xs[i].c) := hc 0 _ rfl
      have x1 : wr.cell? ⟨b, off + i * 3 + 1, none⟩ = some (.int .i64 xs[i].n) := hc 1 _ rfl
      have x2 : wr.cell? ⟨b, off + i * 3 + 2, none⟩ = some (.slice A1 xs[i].ks.length cap1) := hc 2 _ rfl
      clear hc
      have HA := Lib.hid ha
      have HFr2 := Lib.hid hfr2
      have HU2 := Lib.hid hu2
      have HNB := Lib.hid hnb
      clear ha hfr2 hu2 hnb
      have hsn : (0 : Int) ≤ (sumBy cntV xs[i].ks : Nat) := by omega
      generalize hsg : sumBy cntV xs[i].ks = s at *
      have HSG := Lib.hid hsg
      have HCD := Lib.hid hcd
      clear hsg hcd
      have HFz := Lib.hid hfz
      clear hfz
      have U0 := Lib.hid (Upd.refl b (off + i * 3) 3 F2 wr)
      have K0 := Lib.hid (Kept.refl F2 wr)
      have z0 : wr.frozen? ⟨b, off + i * 3, none⟩ = false := (U0.out.froz _).trans (HFz.out _)
      have z1 : wr.frozen? ⟨b, off + i * 3 + 1, none⟩ = false := (U0.out.froz _).trans (HFz.out _)
      go_wp2_with fail
      have U1 := Lib.hid (U0.out.set (j := off + i * 3) (by omega) (by omega) (.int .i64 (m)))
      have K1 := Lib.hid (K0.out.set (b := b) (j := off + i * 3) (u := .int .i64 (m)) HNB.out)
      have y0 : (wr.setCell ⟨b, off + i * 3, none⟩ (.int .i64 (m))).cell? ⟨b, off + i * 3, none⟩ = some (.int .i64 (m)) := World.cell?_setCell_same _ _ _ x0
      have y1 := (World.cell?_setCell_other _ ⟨b, off + i * 3, none⟩ ⟨b, off + i * 3 + 1, none⟩ (.int .i64 (m)) (by intro e; injection e; omega)).trans x1
      have y2 := (World.cell?_setCell_other _ ⟨b, off + i * 3, none⟩ ⟨b, off + i * 3 + 2, none⟩ (.int .i64 (m)) (by intro e; injection e; omega)).trans x2
      clear x0 x1 x2
      have x0 := y0
      have x1 := y1
      have x2 := y2
      clear y0 y1 y2
      have U2 := Lib.hid (U1.out.set (j := off + i * 3 + 1) (by omega) (by omega) (.int .i64 (m + 1)))
      have K2 := Lib.hid (K1.out.set (b := b) (j := off + i * 3 + 1) (u := .int .i64 (m + 1)) HNB.out)
      have y0 := (World.cell?_setCell_other _ ⟨b, off + i * 3 + 1, none⟩ ⟨b, off + i * 3, none⟩ (.int .i64 (m + 1)) (by intro e; injection e; omega)).trans x0
      have y1 : ((wr.setCell ⟨b, off + i * 3, none⟩ (.int .i64 (m))).setCell ⟨b, off + i * 3 + 1, none⟩ (.int .i64 (m + 1))).cell? ⟨b, off + i * 3 + 1, none⟩ = some (.int .i64 (m + 1)) := World.cell?_setCell_same _ _ _ x1
      have y2 := (World.cell?_setCell_other _ ⟨b, off + i * 3 + 1, none⟩ ⟨b, off + i * 3 + 2, none⟩ (.int .i64 (m + 1)) (by intro e; injection e; omega)).trans x2
      clear x0 x1 x2
      have x0 := y0
      have x1 := y1
      have x2 := y2
      clear y0 y1 y2
      refine (IH.out _ (List.getElem_mem hlt) _ _ F2 (m + 1 + 1) (by omega) (by rw [HSG.out]; omega) (HA.out.mono K2.out (fun x _ cs G hk h => (fun w w' x cs G hk h => VR.mono (w := w) (w' := w') x cs G hk h) _ _ x cs G hk h)) (HFr2.out.kept K2.out) (HU2.out.mono U2.out.size)).mono ?_
      rintro e v1 ⟨rfl, hg1, hm1, hfr1⟩
      have hlE1 : b < ((wr.setCell ⟨b, off + i * 3, none⟩ (.int .i64 (m))).setCell ⟨b, off + i * 3 + 1, none⟩ (.int .i64 (m + 1))).heap.size := Nat.lt_of_lt_of_le hbl U2.out.size
      have U3 := Lib.hid (U2.out.sub hg1 HNB.out hlE1)
      have y0 := (World.cell?_of_block (w := ((wr.setCell ⟨b, off + i * 3, none⟩ (.int .i64 (m))).setCell ⟨b, off + i * 3 + 1, none⟩ (.int .i64 (m + 1)))) (a := ⟨b, off + i * 3, none⟩) (hg1.block b hlE1 HNB.out)).trans x0
      have y1 := (World.cell?_of_block (w := ((wr.setCell ⟨b, off + i * 3, none⟩ (.int .i64 (m))).setCell ⟨b, off + i * 3 + 1, none⟩ (.int .i64 (m + 1)))) (a := ⟨b, off + i * 3 + 1, none⟩) (hg1.block b hlE1 HNB.out)).trans x1
      have y2 := (World.cell?_of_block (w := ((wr.setCell ⟨b, off + i * 3, none⟩ (.int .i64 (m))).setCell ⟨b, off + i * 3 + 1, none⟩ (.int .i64 (m + 1)))) (a := ⟨b, off + i * 3 + 2, none⟩) (hg1.block b hlE1 HNB.out)).trans x2
      clear x0 x1 x2 z0 z1
      have x0 := y0
      have x1 := y1
      have x2 := y2
      clear y0 y1 y2
      have hb11 : b < v1.heap.size := Nat.lt_of_lt_of_le hbl U3.out.size
      have z0 : v1.frozen? ⟨b, off + i * 3, none⟩ = false := (U3.out.froz _).trans (HFz.out _)
      have z1 : v1.frozen? ⟨b, off + i * 3 + 1, none⟩ = false := (U3.out.froz _).trans (HFz.out _)
      have HMk := Lib.hid hm1
      have HFrk := Lib.hid hfr1
      have hgs1 := hg1.size
      clear hm1 hfr1 hg1 hlE1
      have K3 := Lib.hid (Kept.refl F2 v1)
      rw [HSG.out]
      have X0 := Lib.hid x0
      have X1 := Lib.hid x1
      have X2 := Lib.hid x2
      have hfin := HCl.out v1 (mkV m xs[i]) _ U3.out (CellsAt.cons X0.out (CellsAt.cons X1.out (CellsAt.cons X2.out (CellsAt.nil _ _ _)))) (by obtain rfl := HSG.out; rw [mkV_def]; exact (VR_iff _ _ _).2 ⟨_, rfl, (HMk.out.mono K3.out (fun x _ cs G hk h => (fun w w' x cs G hk h => VR.mono (w := w) (w' := w') x cs G hk h) _ _ x cs G hk h))⟩) (HFrk.out.kept K3.out)
      have hst : (mkTo mkV cntV k0 xs i).set i (mkV m xs[i]) = mkTo mkV cntV k0 xs (i + 1) := by rw [HM.out]; exact mkTo_step hlt
      rw [hst] at hfin
      clear hst
      have HFin := Lib.hid (And.intro hfin.1 (And.intro hfin.2.1 (HR.out.2.2.trans hfin.2.2)))
      clear hfin
      have HM2 : Hid (m + 1 + 1 + (s : Int) = k0 + (sumBy cntV (xs.take (i + 1)) : Nat)) := by
        have h1 := HM.out
        have h2 := HCD.out
        unfold Hid
        rw [sumBy_take_succ cntV xs i hlt]
        omega
      go_wp2
      go_roundw
      case rel => exact ⟨i + 1, m + 1 + 1 + (s : Int), by omega, by go_num, rfl, by omega, HM2, HFin.out⟩
      case measure => (simp [intOf] <;> omega)
    · have HEnd : Hid (Chg F w wr ∧ Arr wr (VR wr) (mkS mkV cntV k0 xs) (.slice A xs.length cap) F ∧ Free wr F) := by
        have h := HR.out
        rw [mkTo_all k0 xs (by omega)] at h
        exact ⟨h.2.2, h.1, h.2.1⟩
      have hf : Hid (m = k0 + (sumBy cntV xs : Nat)) := by
        have h := HM.out
        rwa [List.take_of_length_le (by omega)] at h
      go_wp2
      go_ret
      exact ⟨ret_int hf.out, HEnd.out⟩

theorem markV_all : ∀ x, MarkV x := V.ind fun a0 a1 ks ih w v F k0 h0 hk hx hfr hf => markValueS_of ks ih w v F k0 h0 hk hx hfr hf
theorem markValueS_any (xs : List V) (w : World) (v : Value) (F : List Nat) (k0 : Int) (h0 : 0 ≤ k0) (hk : k0 + (sumBy cntV xs : Nat) ≤ 1099511627776) (hx : Arr w (VR w) xs v F) (hfr : Free w F) (hf : Under w.heap.size F) :
    Calls Try.prog 80 #[v, .int .i64 k0] w fun e w' => e = .returned (.int .i64 (k0 + (sumBy cntV xs : Nat))) ∧ Chg F w w' ∧ Arr w' (VR w') (mkS mkV cntV k0 xs) v F ∧ Free w' F := markValueS_of xs (fun x _ => markV_all x) w v F k0 h0 hk hx hfr hf

def mkTopV (k : Int) (x : V) : V := ⟨x.c, x.n, mkS mkV cntV k x.ks⟩
set_option maxRecDepth 100000 in
set_option maxHeartbeats 1600000 in
theorem markValue_any (x : V) (w : World) (cs : List Value) (F : List Nat) (k0 : Int) (h0 : 0 ≤ k0) (hk : k0 + (sumBy cntV x.ks : Nat) ≤ 1099511627776) (hx : VR w x cs F) (hfr : Free w F) (hf : Under w.heap.size F) :
    Calls Try.prog 26 #[.agg cs.toArray, .int .i64 k0] w fun e w' => e = .returned (.int .i64 (k0 + (sumBy cntV x.ks : Nat))) ∧ Chg F w w' ∧ VR w' (mkTopV k0 x) cs F ∧ Free w' F := by
  obtain ⟨kv, rfl, ha⟩ := (VR_iff _ _ _).1 hx
  obtain ⟨A, cap, rfl, -, -⟩ := ha.form
  have HA := Lib.hid ha
  have HF := Lib.hid hf
  have HFR := Lib.hid hfr
  have HK := Lib.hid hk
  clear hx ha hf hfr hk
  go_enter Try.func26, Try.ntmps26
  go_wp2_with fail
  obtain ⟨w1, hw1⟩ : ∃ w1, w1 = w.alloc (.cells #[.int .i64 x.c, .int .i64 x.n, .slice A x.ks.length cap] 41) := ⟨_, rfl⟩
  have hb1 : Below w.heap.size w w1 := by rw [hw1]; exact (Below.refl _ _).alloc (Nat.le_refl _) _
  have KV : Blk w1 w.heap.size 41 #[.int .i64 x.c, .int .i64 x.n, .slice A x.ks.length cap] := by rw [hw1]; exact Blk.new _ _ _
  rw [← hw1]
  clear hw1
  have z0 : w1.cell? ⟨w.heap.size, 2, none⟩ = some (.slice A x.ks.length cap) := (KV.cell 2).trans (by simp)
  have klt := KV.lt
  clear KV
  go_wp2_with fail
  refine (markValueS_any x.ks w1 _ F k0 h0 HK.out (ArrV.below HA.out hb1 HF.out) (HFR.out.kept (.of_below hb1 HF.out)) (HF.out.mono hb1.size)).mono ?_
  rintro e w2 ⟨rfl, hg, hm, hfr2⟩
  have hfin : Chg F w w2 ∧ VR w2 (mkTopV k0 x) [.int .i64 x.c, .int .i64 x.n, .slice A x.ks.length cap] F ∧ Free w2 F := ⟨(Chg.of_below hb1).trans hg, (VR_iff _ _ _).2 ⟨_, rfl, hm⟩, hfr2⟩
  have HFin := Lib.hid hfin
  clear hfin hm hfr2 hg
  go_wp2
  go_ret
  exact ⟨rfl, HFin.out⟩
end Go.Proofs.Ytbffkgfhcmigaaa

namespace Go.Proofs.Ytbffkgfhcmigaaa
open Go.RowKit

/-- contract of heldPatternS at a node's parts -/
def HeldP (x : P) : Prop := ∀ (w : World) (v : Value) (F : List Nat) (k0 : Int), 0 ≤ k0 → k0 + (sumBy cntP x.ks : Nat) ≤ 1099511627776 → Arr w (PR w) (mkS mkP cntP k0 x.ks) v F → Under w.heap.size F →
  Calls Try.prog 82 #[v, .int .i64 k0] w fun e w' => e = .returned (.int .i64 (k0 + (sumBy cntP x.ks : Nat))) ∧ Below w.heap.size w w'

set_option maxRecDepth 100000 in
set_option maxHeartbeats 1600000 in
theorem heldPatternS_of (xs : List P) (ih : ∀ x ∈ xs, HeldP x) (w : World) (v : Value) (F : List Nat) (k0 : Int) (h0 : 0 ≤ k0) (hk : k0 + (sumBy cntP xs : Nat) ≤ 1099511627776) (hx : Arr w (PR w) (mkS mkP cntP k0 xs) v F) (hf : Under w.heap.size F) :
    Calls Try.prog 82 #[v, .int .i64 k0] w fun e w' => e = .returned (.int .i64 (k0 + (sumBy cntP xs : Nat))) ∧ Below w.heap.size w w' := by
  obtain ⟨A, cap, rfl, hc1, hc2⟩ := hx.form
  rw [mkS_length] at hx hc1
  rw [mkS_length]
  have HX := Lib.hid hx
  have HF := Lib.hid hf
  have HK := Lib.hid hk
  have IH := Lib.hid ih
  clear hx hf hk ih
  go_enter Try.func82, Try.ntmps82
  go_wp2
  go_loopw [1, 5] (fun kv iv wr => ∃ i : Nat, ∃ m : Int, i ≤ xs.length ∧ iv = .int .i64 i ∧ kv = .int .i64 m ∧ 0 ≤ m ∧ Hid (m = k0 + (sumBy cntP (xs.take i) : Nat)) ∧ Below w.heap.size w wr) (fun _ iv _ => xs.length - (intOf iv).toNat)
  case atStart => exact ⟨0, k0, Nat.zero_le _, rfl, rfl, h0, (by simp [Hid, sumBy]), Below.refl _ _⟩
  case round =>
    obtain ⟨i, m, hi, rfl, rfl, hm0, HM, hB⟩ := hrel
    by_cases hlt : i < xs.length
    · have g1 : (0 : Int) ≤ (i : Int) := by omega
      have g2 : (i : Int) < (xs.length : Int) := by omega
      obtain ⟨b, off, c, F2, rfl, hb, hc, hr, hG⟩ := HX.out.get ((fun w => PR_len (w := w)) _) (i := i) (by rw [mkS_length]; exact hlt)
      have hge : (mkS mkP cntP k0 xs)[i]'(by rw [mkS_length]; exact hlt) = mkP m xs[i] := by
        have h := mkS_get (mk := mkP) (cnt := cntP) (k := k0) hlt
        rw [← HM.out, List.getElem?_eq_getElem (by rw [mkS_length]; exact hlt)] at h
        exact Option.some.inj h
      rw [hge] at hr
      clear hge

      have hbl := HF.out b hb
      have hc := hc.same (hB.block b hbl)
      have hu2 := HF.out.sub hG
      clear hG hb
      have hbw := Nat.lt_of_lt_of_le hbl hB.size
      have hsum : m + (cntP xs[i] : Nat) ≤ 1099511627776 := by
        have h1 := HM.out
        have h2 := HK.out
        have h3 := sumBy_take_le cntP xs (i + 1)
        rw [sumBy_take_succ cntP xs i hlt] at h3
        omega
      rw [mkP_def] at hr
      obtain ⟨kv, rfl, ha⟩ := (PR_iff _ _ _).1 hr
      obtain ⟨A1, cap1, rfl, -, -⟩ := ha.form
      have hcd := cntP_def xs[i]
      rw [hcd] at hsum
      simp only [mkS_length] at hc
      have x0 : wr.cell? ⟨b, off + i * 6, none⟩ = some (.int .i64 (m)) := hc 0 _ rfl
      have x1 : wr.cell? ⟨b, off + i * 6 + 1, none⟩ = some (.int .i64 (m + 1)) := hc 1 _ rfl
      have x2 : wr.cell? ⟨b, off + i * 6 + 2, none⟩ = some (.int .i64 (m + 1 + 1)) := hc 2 _ rfl
      have x3 : wr.cell? ⟨b, off + i * 6 + 3, none⟩ = some (.int .i64 (m + 1 + 1 + 1)) := hc 3 _ rfl
      have x4 : wr.cell? ⟨b, off + i * 6 + 4, none⟩ = some (.int .i64 (m + 1 + 1 + 1 + 1)) := hc 4 _ rfl
      have x5 : wr.cell? ⟨b, off + i * 6 + 5, none⟩ = some (.slice A1 xs[i].ks.length cap1) := hc 5 _ rfl
      clear hc
      simp only [mkS_length] at ha
      have HA := Lib.hid ha
      have HU2 := Lib.hid hu2
      clear ha hu2
      have hsn : (0 : Int) ≤ (sumBy cntP xs[i].ks : Nat) := by omega
      generalize hsg : sumBy cntP xs[i].ks = s at *
      have HSG := Lib.hid hsg
      have HCD := Lib.hid hcd
      clear hsg hcd
      go_wp2_with fail
      refine (IH.out _ (List.getElem_mem hlt) _ _ F2 (m + 1 + 1 + 1 + 1 + 1) (by omega) (by rw [HSG.out]; omega) (HA.out.mono (.of_below hB HU2.out) (fun x _ cs G hk h => (fun w w' x cs G hk h => PR.mono (w := w) (w' := w') x cs G hk h) _ _ x cs G hk h)) (HU2.out.mono hB.size)).mono ?_
      rintro e v1 ⟨rfl, hb1⟩
      rw [HSG.out]
      have y0 := (hb1.cell (p := ⟨b, off + i * 6, none⟩) hbw).trans x0
      have y1 := (hb1.cell (p := ⟨b, off + i * 6 + 1, none⟩) hbw).trans x1
      have y2 := (hb1.cell (p := ⟨b, off + i * 6 + 2, none⟩) hbw).trans x2
      have y3 := (hb1.cell (p := ⟨b, off + i * 6 + 3, none⟩) hbw).trans x3
      have y4 := (hb1.cell (p := ⟨b, off + i * 6 + 4, none⟩) hbw).trans x4
      have y5 := (hb1.cell (p := ⟨b, off + i * 6 + 5, none⟩) hbw).trans x5
      clear x0 x1 x2 x3 x4 x5
      have x0 := y0
      have x1 := y1
      have x2 := y2
      have x3 := y3
      have x4 := y4
      have x5 := y5
      clear y0 y1 y2 y3 y4 y5
      have hB1 := hB.trans (hb1.mono hB.size)
      have hbw := Nat.lt_of_lt_of_le hbw hb1.size
      clear hb1
      have HM2 : Hid (m + 1 + 1 + 1 + 1 + 1 + (s : Int) = k0 + (sumBy cntP (xs.take (i + 1)) : Nat)) := by
        have h1 := HM.out
        have h2 := HCD.out
        unfold Hid
        rw [sumBy_take_succ cntP xs i hlt]
        omega
      have hnn : 0 ≤ m + 1 + 1 + 1 + 1 + 1 + (s : Int) := by omega
      go_wp2
      go_roundw
      case rel => exact ⟨i + 1, m + 1 + 1 + 1 + 1 + 1 + (s : Int), by omega, by go_num, rfl, by omega, HM2, hB1⟩
      case measure => (simp [intOf] <;> omega)
    · have hf : Hid (m = k0 + (sumBy cntP xs : Nat)) := by
        have h := HM.out
        rwa [List.take_of_length_le (by omega)] at h
      go_wp2
      go_ret
      exact ⟨ret_int hf.out, hB⟩

theorem heldP_all : ∀ x, HeldP x := P.ind fun a0 a1 a2 a3 a4 ks ih w v F k0 h0 hk hx hf => heldPatternS_of ks ih w v F k0 h0 hk hx hf
theorem heldPatternS_any (xs : List P) (w : World) (v : Value) (F : List Nat) (k0 : Int) (h0 : 0 ≤ k0) (hk : k0 + (sumBy cntP xs : Nat) ≤ 1099511627776) (hx : Arr w (PR w) (mkS mkP cntP k0 xs) v F) (hf : Under w.heap.size F) :
    Calls Try.prog 82 #[v, .int .i64 k0] w fun e w' => e = .returned (.int .i64 (k0 + (sumBy cntP xs : Nat))) ∧ Below w.heap.size w w' := heldPatternS_of xs (fun x _ => heldP_all x) w v F k0 h0 hk hx hf

set_option maxRecDepth 100000 in
set_option maxHeartbeats 1600000 in
theorem heldPattern_any (x : P) (w : World) (cs : List Value) (F : List Nat) (k0 : Int) (h0 : 0 ≤ k0) (hk : k0 + (sumBy cntP x.ks : Nat) ≤ 1099511627776) (hx : PR w (mkTopP k0 x) cs F) (hf : Under w.heap.size F) :
    Calls Try.prog 28 #[.agg cs.toArray, .int .i64 k0] w fun e w' => e = .returned (.int .i64 (k0 + (sumBy cntP x.ks : Nat))) ∧ Below w.heap.size w w' := by
  obtain ⟨kv, rfl, ha⟩ := (PR_iff _ _ _).1 hx
  obtain ⟨A, cap, rfl, -, -⟩ := ha.form
  simp only [mkTopP, mkS_length] at ha ⊢
  have HA := Lib.hid ha
  have HF := Lib.hid hf
  have HK := Lib.hid hk
  clear hx ha hf hk
  go_enter Try.func28, Try.ntmps28
  go_wp2_with fail
  obtain ⟨w1, hw1⟩ : ∃ w1, w1 = w.alloc (.cells #[.int .i64 x.op, .int .i64 x.ct, .int .i64 x.n, .int .i64 x.m, .int .i64 x.va, .slice A x.ks.length cap] 32) := ⟨_, rfl⟩
  have hb1 : Below w.heap.size w w1 := by rw [hw1]; exact (Below.refl _ _).alloc (Nat.le_refl _) _
  have KV : Blk w1 w.heap.size 32 #[.int .i64 x.op, .int .i64 x.ct, .int .i64 x.n, .int .i64 x.m, .int .i64 x.va, .slice A x.ks.length cap] := by rw [hw1]; exact Blk.new _ _ _
  rw [← hw1]
  clear hw1
  have z0 : w1.cell? ⟨w.heap.size, 5, none⟩ = some (.slice A x.ks.length cap) := (KV.cell 5).trans (by simp)
  have klt := KV.lt
  clear KV
  go_wp2_with fail
  refine (heldPatternS_any x.ks w1 _ F k0 h0 HK.out (ArrP.below HA.out hb1 HF.out) (HF.out.mono hb1.size)).mono ?_
  rintro e w2 ⟨rfl, hg⟩
  have hnn : 0 ≤ k0 + (sumBy cntP x.ks : Nat) := by omega
  have hB2 := hb1.trans (hg.mono hb1.size)
  clear hg
  go_wp2
  go_ret
  exact ⟨rfl, hB2⟩
end Go.Proofs.Ytbffkgfhcmigaaa

namespace Go.Proofs.Ytbffkgfhcmigaaa
open Go.ChangeShapes Go.WideShapes Go.ChangeAt Go.RowKit
set_option maxRecDepth 100000

theorem cellsOf_lawsV : Try.prog.cellsOf 27 = 3 := by kernel_rfl

theorem open_V_cells {H : Type} {enc : TypeId × Value → H} {w : World} {base : Nat} {spare : Nat → Bool} {held : Bool} (fuel : Nat) : ∀ (cs : List Value) (x : DataW H × List MemPlace),
    DataW.trod enc Try.prog w base spare held fuel 27 cs = some x → ∃ v F, VR w v cs F ∧ Under w.heap.size F := by
  induction fuel using Nat.strongRecOn with
  | ind fuel ih =>
  intro cs x h
  obtain ⟨xs, n, rfl, -, hl, hxl, hf⟩ := DataW.trod_struct Try.underlying27 h
  rw [cellsOf_lawsV] at hl
  match cs, hl with
  | [c0, c1, c2], _ =>
  obtain ⟨y, hq⟩ := one_field hf (by kernel_rfl) hxl 2 _ rfl c2 rfl
  obtain ⟨y0, f0⟩ := one_field hf (by kernel_rfl) hxl 0 _ rfl c0 rfl
  obtain ⟨i0, e0, -, -⟩ := DataW.trod_int Try.underlying3 f0
  obtain ⟨y1, f1⟩ := one_field hf (by kernel_rfl) hxl 1 _ rfl c1 rfl
  obtain ⟨i1, e1, -, -⟩ := DataW.trod_int Try.underlying3 f1
  simp only [List.cons.injEq, and_true] at e0 e1
  subst e0 e1
  cases n with
  | zero => simp [DataW.trod] at hq
  | succ n =>
    obtain ⟨ks, kv, F, ek, ha, hF⟩ := open_Arr (VR w) Try.underlying25 cellsOf_lawsV (by decide) rfl (fun ds y hd _ => ih n (by omega) ds y hd) hq
    simp only [List.cons.injEq, and_true] at ek
    subst ek
    exact ⟨⟨i0, i1, ks⟩, F, (VR_iff _ _ _).2 ⟨_, rfl, ha⟩, hF⟩

theorem open_V {H : Type} {enc : TypeId × Value → H} {w : World} {base : Nat} {spare : Nat → Bool} {held : Bool} {r : Reach} {b0 : Nat} {v : Value} {d : DataW H} {ps : List MemPlace} (hval : Value.okWide Try.prog w r b0 27 v)
    (h : DataW.Trod enc Try.prog w base spare held 27 v d ps) : ∃ (x : V) (cs : List Value) (F : List Nat), v = .agg cs.toArray ∧ VR w x cs F ∧ Under w.heap.size F := by
  obtain ⟨cs, rfl, -⟩ := okWide_struct Try.underlying27 hval
  obtain ⟨fuel, hf⟩ := h
  obtain ⟨x, F, h1, h2⟩ := open_V_cells fuel _ _ hf
  exact ⟨x, cs.toList, F, by simp, h1, h2⟩
end Go.Proofs.Ytbffkgfhcmigaaa
