/-
  FnCtorsOf: for every argument the law returns true. Conditions: none.
-/
import Derived.Test.YtbejcgknjnhdpaaFnCtorsOfPc
import Derived.Test.YtbejcgknjnhdpaaFnCtorsOfPd
import Derived.Deep.RegionWith
import Derived.Deep.RegionHeld3
import Derived.BigQuiet
import Derived.Test.YtbejcgknjnhdpaaRows
import Derived.ProofKit
import Derived.OpenShut
import Derived.ShutString
import Derived.ChangeOld
import Derived.Below

set_option linter.unusedVariables false
set_option linter.unusedSimpArgs false

namespace Go.Proofs.Ytbejcgknjnhdpaa.fnCtorsOf
open Go.RowKit

set_option maxRecDepth 100000 in
set_option maxHeartbeats 1600000 in
theorem walk {W : World} (x0 : List Int) (v0 : Value) (F0 : List Nat) (hR0 : Arr W (ByR W) x0 v0 F0) (hU0 : Under W.heap.size F0) (w : World) (hw : w = W) :
    Calls Try.prog 5 #[v0] w fun e w' => e = .returned (.bool true) ∧ Below w.heap.size w w' := by
  subst hw
  obtain ⟨A0, cap0, rfl, -, -⟩ := hR0.form
  have HR0 := Lib.hid hR0
  have HU0 := Lib.hid hU0
  clear hR0 hU0
  by_cases hlen : 1048576 < x0.length
  · have t0 : decide ((x0.length : Int) > 1048576) = true := decide_eq_true (by omega)
    go_enter Try.func5, Try.ntmps5
    go_wp2
    go_ret
    exact ⟨rfl, Below.refl _ _⟩
  have t0 : decide ((x0.length : Int) > 1048576) = false := decide_eq_false (by omega)
  go_enter Try.func5, Try.ntmps5
  go_wp2_with fail
  refine (spec_DrawCtorsOf x0 w _ F0 HR0.out HU0.out).mono ?_
  rintro e w1 ⟨xs, v1, F1, t, rfl, hb1, ha1, hf1⟩
  obtain ⟨A1, cap1, rfl, hc1, hc2⟩ := ha1.form
  have hb2 : Below w1.heap.size w1 (w1.alloc (.cells #[.int .i64 t.d, .int .i64 t.i] 33)) := (Below.refl _ _).alloc (Nat.le_refl _) _
  have hB2 : Below w.heap.size w (w1.alloc (.cells #[.int .i64 t.d, .int .i64 t.i] 33)) := hb1.trans (hb2.mono hb1.size)
  have HA2 : Hid (Arr (w1.alloc (.cells #[.int .i64 t.d, .int .i64 t.i] 33)) (DtR (w1.alloc (.cells #[.int .i64 t.d, .int .i64 t.i] 33))) xs (.slice A1 xs.length cap1) F1) := ArrDt.below ha1 hb2 hf1.under
  have HU2 : Hid (Under (w1.alloc (.cells #[.int .i64 t.d, .int .i64 t.i] 33)).heap.size F1) := hf1.under.mono hb2.size
  have KT2 : Hid (Blk (w1.alloc (.cells #[.int .i64 t.d, .int .i64 t.i] 33)) w1.heap.size 33 #[.int .i64 t.d, .int .i64 t.i]) := Blk.new _ _ _
  clear ha1 hf1 hb1 HR0 HU0 hb2
  go_wp2_with fail
  generalize (w1.alloc (.cells #[.int .i64 t.d, .int .i64 t.i] 33)) = w2 at *
  generalize w1.heap.size = k at *
  obtain ⟨ls, hls⟩ : ∃ l, ctorsOfL xs t = l := ⟨_, rfl⟩
  have HLS := Lib.hid hls
  clear hls
  have c02 : w2.cell? ⟨k, 0, none⟩ = some (.int .i64 t.d) := (KT2.out.cell 0).trans (by simp)
  have c12 : w2.cell? ⟨k, 1, none⟩ = some (.int .i64 t.i) := (KT2.out.cell 1).trans (by simp)
  have cl2 := KT2.out.lt
  refine (impl_CtorsOf xs t w2 _ F1 HA2.out HU2.out).mono ?_
  rintro e w3 ⟨vL, FL, rfl, hb3, haL, -, hfL⟩
  have hB3 := hB2.trans (hb3.mono hB2.size)
  have HA3 : Hid (Arr w3 (DtR w3) xs (.slice A1 xs.length cap1) F1) := ArrDt.below HA2.out hb3 HU2.out
  have HU3 : Hid (Under w3.heap.size F1) := HU2.out.mono hb3.size
  have KT3 : Hid (Blk w3 k 33 #[.int .i64 t.d, .int .i64 t.i]) := KT2.out.same (hb3.block _ KT2.out.lt)
  clear hB2 HA2 HU2 hb3 KT2
  rw [HLS.out] at haL
  obtain ⟨AL, capL, rfl, -, -⟩ := haL.form
  have HL3 : Hid (Arr w3 (NatR w3) ls (.slice AL ls.length capL) FL) := haL
  have UL3 := Lib.hid hfL.under
  clear haL hfL
  clear c02 c12 cl2
  have c03 : w3.cell? ⟨k, 0, none⟩ = some (.int .i64 t.d) := (KT3.out.cell 0).trans (by simp)
  have c13 : w3.cell? ⟨k, 1, none⟩ = some (.int .i64 t.i) := (KT3.out.cell 1).trans (by simp)
  have cl3 := KT3.out.lt
  go_wp2_with fail
  refine (spec_CtorsOf xs t w3 _ F1 HA3.out HU3.out).mono ?_
  rintro e w4 ⟨vS, FZ, rfl, hb4, haS, -, hfS⟩
  have HL4 : Hid (Arr w4 (NatR w4) ls (.slice AL ls.length capL) FL) := HL3.out.mono (.of_below hb4 UL3.out) fun _ _ _ _ _ h => h
  have UL4 : Hid (Under w4.heap.size FL) := UL3.out.mono hb4.size
  clear HL3 UL3
  have hB4 := hB3.trans (hb4.mono hB3.size)
  have HA4 : Hid (Arr w4 (DtR w4) xs (.slice A1 xs.length cap1) F1) := ArrDt.below HA3.out hb4 HU3.out
  have HU4 : Hid (Under w4.heap.size F1) := HU3.out.mono hb4.size
  have KT4 : Hid (Blk w4 k 33 #[.int .i64 t.d, .int .i64 t.i]) := KT3.out.same (hb4.block _ KT3.out.lt)
  clear hB3 HA3 HU3 hb4 KT3
  rw [HLS.out] at haS
  obtain ⟨AS, capS, rfl, -, -⟩ := haS.form
  have HS4 : Hid (Arr w4 (NatR w4) ls (.slice AS ls.length capS) FZ) := haS
  have US4 := Lib.hid hfS.under
  clear haS hfS
  clear c03 c13 cl3
  go_wp2_with fail
  refine (ptInts_same ls w4 FL FZ _ _ HL4.out HS4.out UL4.out US4.out).mono ?_
  rintro e w5 ⟨rfl, hb5⟩
  have HL5 : Hid (Arr w5 (NatR w5) ls (.slice AL ls.length capL) FL) := HL4.out.mono (.of_below hb5 UL4.out) fun _ _ _ _ _ h => h
  have UL5 : Hid (Under w5.heap.size FL) := UL4.out.mono hb5.size
  clear HL4 UL4
  have HS5 : Hid (Arr w5 (NatR w5) ls (.slice AS ls.length capS) FZ) := HS4.out.mono (.of_below hb5 US4.out) fun _ _ _ _ _ h => h
  have US5 : Hid (Under w5.heap.size FZ) := US4.out.mono hb5.size
  clear HS4 US4
  have hB5 := hB4.trans (hb5.mono hB4.size)
  have HA5 : Hid (Arr w5 (DtR w5) xs (.slice A1 xs.length cap1) F1) := ArrDt.below HA4.out hb5 HU4.out
  have HU5 : Hid (Under w5.heap.size F1) := HU4.out.mono hb5.size
  have KT5 : Hid (Blk w5 k 33 #[.int .i64 t.d, .int .i64 t.i]) := KT4.out.same (hb5.block _ KT4.out.lt)
  clear hB4 HA4 HU4 hb5 KT4
  have c05 : w5.cell? ⟨k, 0, none⟩ = some (.int .i64 t.d) := (KT5.out.cell 0).trans (by simp)
  have c15 : w5.cell? ⟨k, 1, none⟩ = some (.int .i64 t.i) := (KT5.out.cell 1).trans (by simp)
  have cl5 := KT5.out.lt
  go_wp2_with fail
  refine (impl_TypeValid xs t w5 _ F1 HA5.out HU5.out).mono ?_
  rintro e w6 ⟨rfl, hb6⟩
  have HL6 : Hid (Arr w6 (NatR w6) ls (.slice AL ls.length capL) FL) := HL5.out.mono (.of_below hb6 UL5.out) fun _ _ _ _ _ h => h
  have UL6 : Hid (Under w6.heap.size FL) := UL5.out.mono hb6.size
  clear HL5 UL5
  have HS6 : Hid (Arr w6 (NatR w6) ls (.slice AS ls.length capS) FZ) := HS5.out.mono (.of_below hb6 US5.out) fun _ _ _ _ _ h => h
  have US6 : Hid (Under w6.heap.size FZ) := US5.out.mono hb6.size
  clear HS5 US5
  have hB6 := hB5.trans (hb6.mono hB5.size)
  have HA6 : Hid (Arr w6 (DtR w6) xs (.slice A1 xs.length cap1) F1) := ArrDt.below HA5.out hb6 HU5.out
  have HU6 : Hid (Under w6.heap.size F1) := HU5.out.mono hb6.size
  have KT6 : Hid (Blk w6 k 33 #[.int .i64 t.d, .int .i64 t.i]) := KT5.out.same (hb6.block _ KT5.out.lt)
  clear hB5 HA5 HU5 hb6 KT5
  clear c05 c15 cl5
  cases q0 : typeValidB xs t with
  | false =>
    have hnil : ls = [] := by
      have h := HLS.out
      unfold ctorsOfL at h
      rw [if_neg (by simp [q0])] at h
      exact h.symm
    have z0 : ((ls.length : Int) == 0) = true := by rw [hnil]; rfl
    clear hnil
    have c06 : w6.cell? ⟨k, 0, none⟩ = some (.int .i64 t.d) := (KT6.out.cell 0).trans (by simp)
    have c16 : w6.cell? ⟨k, 1, none⟩ = some (.int .i64 t.i) := (KT6.out.cell 1).trans (by simp)
    have cl6 := KT6.out.lt
    go_wp2_with fail
    refine (spec_CtorsOf xs t w6 _ F1 HA6.out HU6.out).mono ?_
    rintro e w7 ⟨vR, FR, rfl, hb7, haR, -, hfR⟩
    have HL7 : Hid (Arr w7 (NatR w7) ls (.slice AL ls.length capL) FL) := HL6.out.mono (.of_below hb7 UL6.out) fun _ _ _ _ _ h => h
    have UL7 : Hid (Under w7.heap.size FL) := UL6.out.mono hb7.size
    clear HL6 UL6
    have HS7 : Hid (Arr w7 (NatR w7) ls (.slice AS ls.length capS) FZ) := HS6.out.mono (.of_below hb7 US6.out) fun _ _ _ _ _ h => h
    have US7 : Hid (Under w7.heap.size FZ) := US6.out.mono hb7.size
    clear HS6 US6
    have hB7 := hB6.trans (hb7.mono hB6.size)
    have HA7 : Hid (Arr w7 (DtR w7) xs (.slice A1 xs.length cap1) F1) := ArrDt.below HA6.out hb7 HU6.out
    have HU7 : Hid (Under w7.heap.size F1) := HU6.out.mono hb7.size
    have KT7 : Hid (Blk w7 k 33 #[.int .i64 t.d, .int .i64 t.i]) := KT6.out.same (hb7.block _ KT6.out.lt)
    clear hB6 HA6 HU6 hb7 KT6
    rw [HLS.out] at haR
    obtain ⟨AR, capR, rfl, -, -⟩ := haR.form
    have HR7 : Hid (Arr w7 (NatR w7) ls (.slice AR ls.length capR) FR) := haR
    have UR7 := Lib.hid hfR.under
    clear haR hfR
    clear c06 c16 cl6
    go_wp2_with fail
    refine (ptInts_same ls w7 FL FR _ _ HL7.out HR7.out UL7.out UR7.out).mono ?_
    rintro e w8 ⟨rfl, hb8⟩
    have HL8 : Hid (Arr w8 (NatR w8) ls (.slice AL ls.length capL) FL) := HL7.out.mono (.of_below hb8 UL7.out) fun _ _ _ _ _ h => h
    have UL8 : Hid (Under w8.heap.size FL) := UL7.out.mono hb8.size
    clear HL7 UL7
    have HS8 : Hid (Arr w8 (NatR w8) ls (.slice AS ls.length capS) FZ) := HS7.out.mono (.of_below hb8 US7.out) fun _ _ _ _ _ h => h
    have US8 : Hid (Under w8.heap.size FZ) := US7.out.mono hb8.size
    clear HS7 US7
    have HR8 : Hid (Arr w8 (NatR w8) ls (.slice AR ls.length capR) FR) := HR7.out.mono (.of_below hb8 UR7.out) fun _ _ _ _ _ h => h
    have UR8 : Hid (Under w8.heap.size FR) := UR7.out.mono hb8.size
    clear HR7 UR7
    have hB8 := hB7.trans (hb8.mono hB7.size)
    have HA8 : Hid (Arr w8 (DtR w8) xs (.slice A1 xs.length cap1) F1) := ArrDt.below HA7.out hb8 HU7.out
    have HU8 : Hid (Under w8.heap.size F1) := HU7.out.mono hb8.size
    have KT8 : Hid (Blk w8 k 33 #[.int .i64 t.d, .int .i64 t.i]) := KT7.out.same (hb8.block _ KT7.out.lt)
    clear hB7 HA7 HU7 hb8 KT7
    go_wp2
    go_ret
    exact ⟨rfl, hB8⟩
  | true =>
    obtain ⟨hw, hto⟩ := typeValid_split q0
    have HIN := Lib.hid (typeOkB_in hto)
    obtain ⟨al, has⟩ : ∃ l, ctorsOfL xs ⟨t.d, 0⟩ = l := ⟨_, rfl⟩
    have HAS := Lib.hid has
    have hlc : ls = ctorsL xs t := by rw [← HLS.out]; unfold ctorsOfL; rw [if_pos q0]
    have hv2 : typeValidB xs ⟨t.d, 0⟩ = true := by
      unfold typeValidB at q0 ⊢
      rw [Bool.and_eq_true] at q0 ⊢
      exact ⟨q0.1, typeOkB_wide q0.2⟩
    have hac : al = ctorsL xs ⟨t.d, 0⟩ := by rw [← has]; unfold ctorsOfL; rw [if_pos hv2]
    have HIA : Hid (∀ n ∈ ls, hasB al n = true) := fun n hn => by rw [hlc] at hn; rw [hac, hasB_iff]; exact ctorsL_any HIN.out hn
    have HSO : Hid (∀ a (ha : a + 1 < ls.length), ls[a] < ls[a + 1]) := fun a ha => by subst hlc; exact ctorsL_sorted HIN.out a ha
    have HI0 : Hid (0 ≤ t.i ∧ (t.i = 0 → al = ls)) := ⟨typeOkB_idx hto, fun h => by rw [hac, hlc, ← h]⟩
    clear has hlc hac hv2 hw hto
    have c06 : w6.cell? ⟨k, 0, none⟩ = some (.int .i64 t.d) := (KT6.out.cell 0).trans (by simp)
    have c16 : w6.cell? ⟨k, 1, none⟩ = some (.int .i64 t.i) := (KT6.out.cell 1).trans (by simp)
    have cl6 := KT6.out.lt
    go_wp2_with fail
    refine (impl_CtorsOf xs ⟨t.d, 0⟩ w6 _ F1 HA6.out HU6.out).mono ?_
    rintro e w7 ⟨vM, FM, rfl, hb7, haM, -, hfM⟩
    have HL7 : Hid (Arr w7 (NatR w7) ls (.slice AL ls.length capL) FL) := HL6.out.mono (.of_below hb7 UL6.out) fun _ _ _ _ _ h => h
    have UL7 : Hid (Under w7.heap.size FL) := UL6.out.mono hb7.size
    clear HL6 UL6
    have HS7 : Hid (Arr w7 (NatR w7) ls (.slice AS ls.length capS) FZ) := HS6.out.mono (.of_below hb7 US6.out) fun _ _ _ _ _ h => h
    have US7 : Hid (Under w7.heap.size FZ) := US6.out.mono hb7.size
    clear HS6 US6
    have hB7 := hB6.trans (hb7.mono hB6.size)
    have HA7 : Hid (Arr w7 (DtR w7) xs (.slice A1 xs.length cap1) F1) := ArrDt.below HA6.out hb7 HU6.out
    have HU7 : Hid (Under w7.heap.size F1) := HU6.out.mono hb7.size
    have KT7 : Hid (Blk w7 k 33 #[.int .i64 t.d, .int .i64 t.i]) := KT6.out.same (hb7.block _ KT6.out.lt)
    clear hB6 HA6 HU6 hb7 KT6
    rw [HAS.out] at haM
    obtain ⟨AM, capM, rfl, -, -⟩ := haM.form
    have HM7 : Hid (Arr w7 (NatR w7) al (.slice AM al.length capM) FM) := haM
    have UM7 := Lib.hid hfM.under
    clear haM hfM
    clear c06 c16 cl6
    go_wp2
    go_loopw [7] (fun iv wr => ∃ i : Nat, i ≤ ls.length ∧ iv = .int .i64 i ∧ Below w7.heap.size w7 wr) (fun iv _ => ls.length - (intOf iv).toNat)
    case atStart => exact ⟨0, Nat.zero_le _, rfl, Below.refl _ _⟩
    case round =>
      obtain ⟨i, hi, rfl, hB⟩ := hrel
      by_cases hil : i < ls.length
      · have hlm : ls.length ≤ 9223372036854775807 := by obtain ⟨_, _, _, h1, h2⟩ := HL7.out.form; omega
        obtain ⟨bl, offl, rfl⟩ := HL7.out.ptr (by omega)
        obtain ⟨hbl, y0⟩ := ArrNat.at HL7.out UL7.out hB i hil
        have g1 : (0 : Int) ≤ (i : Int) := by omega
        have g2 : (i : Int) < (ls.length : Int) := by omega
        have e1 : decide (i < ls.length) = true := by simpa using hil
        have hin : hasB al ls[i] = true := HIA.out _ (List.getElem_mem hil)
        have HPT : Hid (∀ nn : Nat, Calls Try.prog 18 #[.slice AM al.length capM, .int .i64 ls[i]] (wr.drewN nn) fun e w'' => e = .returned (.bool true) ∧ ∃ m, w'' = wr.drewN m) := fun nn => by
          refine (ptIn_same al ls[i] (wr.drewN nn) _ FM (HM7.out.mono (.of_below (below_drewN hB nn) UM7.out) fun _ _ _ _ _ h => h) (UM7.out.mono (below_drewN hB nn).size)).mono ?_
          rintro e w'' ⟨rfl, rfl⟩
          exact ⟨ret_bool hin, nn, rfl⟩
        rcases Nat.eq_zero_or_pos i with h0 | h0
        · have q1 : decide ((i : Int) > 0) = false := decide_eq_false (by omega)
          have q1' : decide (0 < i) = false := decide_eq_false (by omega)
          have HI := Lib.hid h0
          clear h0
          go_wp2_with fail
          go_quiet ((go_at_call 18; exact HPT.out _))
          have hB1 : Below w7.heap.size w7 (wr.drewN nq) := below_drewN hB nq
          go_wp2
          go_roundw
          case rel => exact ⟨i + 1, hil, by go_num, hB1⟩
          case measure => (simp [intOf] <;> omega)
        · obtain ⟨p, hp⟩ : ∃ p, i = p + 1 := ⟨i - 1, by omega⟩
          have q1 : decide ((i : Int) > 0) = true := decide_eq_true (by omega)
          have q1' : decide (0 < i) = true := decide_eq_true (by omega)
          have hpl : p < ls.length := by omega
          obtain ⟨-, y1⟩ := ArrNat.at HL7.out UL7.out hB p hpl
          have x1 : (i : Int) - 1 = (p : Int) := by omega
          have x2 : IntKind.i64.wrap (p : Int) = (p : Int) := IntWalk.i64_in _ (by omega)
          have g3 : (0 : Int) ≤ (p : Int) := by omega
          have g4 : (p : Int) < (ls.length : Int) := by omega
          have hlt : ls[p] < ls[i] := by subst hp; exact HSO.out p hil
          have q2 : decide (ls[p] ≥ ls[i]) = false := decide_eq_false (by omega)
          clear hp h0 hlt
          go_wp2_with fail
          go_quiet ((go_at_call 18; exact HPT.out _))
          have hB1 : Below w7.heap.size w7 (wr.drewN nq) := below_drewN hB nq
          go_wp2
          go_roundw
          case rel => exact ⟨i + 1, hil, by go_num, hB1⟩
          case measure => (simp [intOf] <;> omega)
      · cases q1 : decide (t.i > 0) with
        | true =>
          have hB1 : Below w.heap.size w wr := hB7.trans (hB.mono hB7.size)
          have z1 : wr.cell? ⟨k, 1, none⟩ = some (.int .i64 t.i) := (hB.cell KT7.out.lt).trans ((KT7.out.cell 1).trans (by simp))
          go_wp2
          go_ret
          exact ⟨rfl, hB1⟩
        | false =>
          have hB1 : Below w.heap.size w wr := hB7.trans (hB.mono hB7.size)
          have z1 : wr.cell? ⟨k, 1, none⟩ = some (.int .i64 t.i) := (hB.cell KT7.out.lt).trans ((KT7.out.cell 1).trans (by simp))
          have hal : al = ls := HI0.out.2 (by rw [decide_eq_false_iff_not] at q1; have := HI0.out.1; omega)
          subst hal
          go_wp2_with fail
          refine (ptInts_same al wr FL FM _ _ (HL7.out.mono (.of_below hB UL7.out) fun _ _ _ _ _ h => h) (HM7.out.mono (.of_below hB UM7.out) fun _ _ _ _ _ h => h) (UL7.out.mono hB.size) (UM7.out.mono hB.size)).mono ?_
          rintro e w' ⟨rfl, hB'⟩
          have hB2 := hB1.trans (hB'.mono hB1.size)
          go_wp2
          go_ret
          exact ⟨rfl, hB2⟩
end Go.Proofs.Ytbejcgknjnhdpaa.fnCtorsOf

namespace Go.Proofs.Ytbejcgknjnhdpaa.fnCtorsOf
open Go.ChangeShapes Go.WideShapes Go.ChangeAt Go.RowKit
open Go.ChangeMaps (open_string shut_string)
set_option linter.unusedVariables false

theorem own : ownKnob Try.prog.godebug = none := by kernel_rfl
theorem laidOut : laidOutB Try.prog = true := by kernel_rfl

set_option maxRecDepth 100000 in
theorem lifted (os : Os) (started : os.Started) (H : Type) (enc : TypeId × Value → H) :
    ReturnsInHanded {} Try.checked os 5 .any (Rows.fnCtorsOfSpec.pre6 enc Try.prog Try.f5 Rows.fnCtorsOfRow.domain false) (Rows.fnCtorsOfSpec.post enc Try.prog Try.f5 false true false false) := by
  refine returnsInHanded_of_change (C := Try.checked) own started (by kernel_rfl) Try.func5
    (ChangeSpec.witness6 (enc := enc) (C := Try.checked) false ⟨#[], #[.slice none 0 0], []⟩ 8 (by kernel_rfl) (by kernel_rfl) (by kernel_rfl) (by kernel_rfl)) ?_
  intro W base args ds gs before hval0 hW hcnd _
  have hval : ∀ (j : Nat) t v, Try.f5.params[j]? = some t → args[j]? = some v → Value.okWide Try.prog W .any base t v := hval0
  have hW' := hW
  obtain ⟨p, q, hA0, hV, rfl, hfz, hnd⟩ := hW
  have hA : DataW.TrodAll enc Try.prog W 0 (fun _ => true) true Try.f5.params.toList args.toList ds p := hA0
  rw [Try.params5] at hA hval
  obtain ⟨v0, vs0, d0, ds0, p0, q0, hargs, rfl, rfl, h0, r0⟩ := trodAll_cons hA
  obtain ⟨rfl, rfl, rfl⟩ := trodAll_nil r0
  obtain rfl : args = #[v0] := by cases args; simp_all
  obtain ⟨rfl, rfl⟩ := trodVars_none hV
  have k0 := h0
  have lt0 : ∀ x ∈ p0, x.block < W.heap.size := by obtain ⟨m, hm⟩ := k0; exact DataW.trod_lt m _ _ _ hm
  obtain ⟨x0, F0, hR0, hU0⟩ := open_Bytes (hval 0 22 v0 rfl rfl) h0
  clear hA0 hval0
  refine (walk x0 v0 F0 hR0 hU0 W rfl).mono fun e W' ⟨he, bel⟩ => ?_
  subst he
  exact ⟨_, rfl, _, _, _, [], _, [], hW', trodAll_mk1 (shut_bool Try.underlying4 _), (trodAll_cons_mk (Below.trod laidOut (by kernel_rfl) (of_decide_eq_true (by kernel_rfl)) k0 bel lt0) trodAll_mk0), rfl, bel.frame _, fun h => by cases h⟩

theorem over : Rows.fnCtorsOfRow.holds Try.pinned (OpenSpec.ofChange Rows.fnCtorsOfSpec) :=
  OpenClaim.holds_of_wide 5 Try.f5 rfl rfl rfl rfl rfl rfl rfl ⟨rfl, rfl, rfl, rfl, rfl⟩ rfl rfl rfl rfl rfl (by kernel_rfl) Try.func5 (by kernel_rfl)
    (of_decide_eq_true (by kernel_rfl)) (by unfold Func.isWrapper; first | (rw [if_pos (by decide +kernel)]; kernel_rfl) | (rw [if_neg (by decide +kernel)]; exact ⟨rfl, rfl⟩))
    (fun os started H enc _ => lifted os started H enc)

theorem proved : Rows.FnCtorsOfSaid := over
end Go.Proofs.Ytbejcgknjnhdpaa.fnCtorsOf
