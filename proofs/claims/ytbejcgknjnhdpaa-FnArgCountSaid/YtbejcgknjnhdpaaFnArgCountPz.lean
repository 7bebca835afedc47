/-
  FnArgCount: for every argument the law returns true. Conditions: none.
-/
import Derived.Test.YtbejcgknjnhdpaaFnArgCountPc
import Derived.Deep.RegionWith
import Derived.Deep.RegionHeld3
import Derived.BigQuiet
import Derived.Test.YtbejcgknjnhdpaaRows
import Derived.ProofKit
import Derived.OpenShut
import Derived.ShutString
import Derived.ChangeOld
import Derived.Below

set_option linter.unusedVariables false
set_option linter.unusedSimpArgs false

namespace Go.Proofs.Ytbejcgknjnhdpaa.fnArgCount
open Go.RowKit

set_option maxRecDepth 100000 in
set_option maxHeartbeats 1600000 in
theorem walk {W : World} (x0 : List Int) (v0 : Value) (F0 : List Nat) (hR0 : Arr W (ByR W) x0 v0 F0) (hU0 : Under W.heap.size F0) (w : World) (hw : w = W) :
    Calls Try.prog 6 #[v0] w fun e w' => e = .returned (.bool true) ∧ Below w.heap.size w w' := by
  subst hw
  obtain ⟨A0, cap0, rfl, -, -⟩ := hR0.form
  have HR0 := Lib.hid hR0
  have HU0 := Lib.hid hU0
  clear hR0 hU0
  by_cases hlen : 1048576 < x0.length
  · have t0 : decide ((x0.length : Int) > 1048576) = true := decide_eq_true (by omega)
    go_enter Try.func6, Try.ntmps6
    go_wp2
    go_ret
    exact ⟨rfl, Below.refl _ _⟩
  have t0 : decide ((x0.length : Int) > 1048576) = false := decide_eq_false (by omega)
  go_enter Try.func6, Try.ntmps6
  go_wp2_with fail
  refine (spec_DrawArgTypes x0 w _ F0 HR0.out HU0.out).mono ?_
  rintro e w1 ⟨xs, v1, F1, t, n, rfl, hb1, ha1, hf1⟩
  obtain ⟨A1, cap1, rfl, hc1, hc2⟩ := ha1.form
  have hb2 : Below w1.heap.size w1 (w1.alloc (.cells #[.int .i64 t.d, .int .i64 t.i] 33)) := (Below.refl _ _).alloc (Nat.le_refl _) _
  have hB2 : Below w.heap.size w (w1.alloc (.cells #[.int .i64 t.d, .int .i64 t.i] 33)) := hb1.trans (hb2.mono hb1.size)
  have HA2 : Hid (Arr (w1.alloc (.cells #[.int .i64 t.d, .int .i64 t.i] 33)) (DtR (w1.alloc (.cells #[.int .i64 t.d, .int .i64 t.i] 33))) xs (.slice A1 xs.length cap1) F1) := ArrDt.below ha1 hb2 hf1.under
  have HU2 : Hid (Under (w1.alloc (.cells #[.int .i64 t.d, .int .i64 t.i] 33)).heap.size F1) := hf1.under.mono hb2.size
  have KT2 : Hid (Blk (w1.alloc (.cells #[.int .i64 t.d, .int .i64 t.i] 33)) w1.heap.size 33 #[.int .i64 t.d, .int .i64 t.i]) := Blk.new _ _ _
  clear ha1 hf1 hb1 HR0 HU0 hb2
  go_wp2_with fail
  generalize (w1.alloc (.cells #[.int .i64 t.d, .int .i64 t.i] 33)) = w2 at *
  generalize w1.heap.size = k at *
  obtain ⟨ts, hts⟩ : ∃ l, argTypesL xs t n = l := ⟨_, rfl⟩
  have HTS := Lib.hid hts
  clear hts
  have c02 : w2.cell? ⟨k, 0, none⟩ = some (.int .i64 t.d) := (KT2.out.cell 0).trans (by simp)
  have c12 : w2.cell? ⟨k, 1, none⟩ = some (.int .i64 t.i) := (KT2.out.cell 1).trans (by simp)
  have cl2 := KT2.out.lt
  refine (impl_ArgTypes xs t n w2 _ F1 HA2.out HU2.out).mono ?_
  rintro e w3 ⟨vL, FL, rfl, hb3, haL, -, hfL⟩
  have hB3 := hB2.trans (hb3.mono hB2.size)
  have HA3 : Hid (Arr w3 (DtR w3) xs (.slice A1 xs.length cap1) F1) := ArrDt.below HA2.out hb3 HU2.out
  have HU3 : Hid (Under w3.heap.size F1) := HU2.out.mono hb3.size
  have KT3 : Hid (Blk w3 k 33 #[.int .i64 t.d, .int .i64 t.i]) := KT2.out.same (hb3.block _ KT2.out.lt)
  clear hB2 HA2 HU2 hb3 KT2
  rw [HTS.out] at haL
  obtain ⟨AL, capL, rfl, -, -⟩ := haL.form
  have HL3 : Hid (Arr w3 (TyR w3) ts (.slice AL ts.length capL) FL) := haL
  have UL3 := Lib.hid hfL.under
  clear haL hfL
  clear c02 c12 cl2
  have c03 : w3.cell? ⟨k, 0, none⟩ = some (.int .i64 t.d) := (KT3.out.cell 0).trans (by simp)
  have c13 : w3.cell? ⟨k, 1, none⟩ = some (.int .i64 t.i) := (KT3.out.cell 1).trans (by simp)
  have cl3 := KT3.out.lt
  go_wp2_with fail
  refine (spec_ArgTypes xs t n w3 _ F1 HA3.out HU3.out).mono ?_
  rintro e w4 ⟨vS, FZ, rfl, hb4, haS, -, hfS⟩
  have HL4 : Hid (Arr w4 (TyR w4) ts (.slice AL ts.length capL) FL) := HL3.out.mono (.of_below hb4 UL3.out) fun _ _ _ _ _ h => h
  have UL4 : Hid (Under w4.heap.size FL) := UL3.out.mono hb4.size
  clear HL3 UL3
  have hB4 := hB3.trans (hb4.mono hB3.size)
  have HA4 : Hid (Arr w4 (DtR w4) xs (.slice A1 xs.length cap1) F1) := ArrDt.below HA3.out hb4 HU3.out
  have HU4 : Hid (Under w4.heap.size F1) := HU3.out.mono hb4.size
  have KT4 : Hid (Blk w4 k 33 #[.int .i64 t.d, .int .i64 t.i]) := KT3.out.same (hb4.block _ KT3.out.lt)
  clear hB3 HA3 HU3 hb4 KT3
  rw [HTS.out] at haS
  obtain ⟨AS, capS, rfl, -, -⟩ := haS.form
  have HS4 : Hid (Arr w4 (TyR w4) ts (.slice AS ts.length capS) FZ) := haS
  have US4 := Lib.hid hfS.under
  clear haS hfS
  clear c03 c13 cl3
  have c04 : w4.cell? ⟨k, 0, none⟩ = some (.int .i64 t.d) := (KT4.out.cell 0).trans (by simp)
  have c14 : w4.cell? ⟨k, 1, none⟩ = some (.int .i64 t.i) := (KT4.out.cell 1).trans (by simp)
  have cl4 := KT4.out.lt
  go_wp2_with fail
  refine (impl_CtorsOf xs t w4 _ F1 HA4.out HU4.out).mono ?_
  rintro e w5 ⟨vM, FM, rfl, hb5, haM, -, hfM⟩
  have HL5 : Hid (Arr w5 (TyR w5) ts (.slice AL ts.length capL) FL) := HL4.out.mono (.of_below hb5 UL4.out) fun _ _ _ _ _ h => h
  have UL5 : Hid (Under w5.heap.size FL) := UL4.out.mono hb5.size
  clear HL4 UL4
  have HS5 : Hid (Arr w5 (TyR w5) ts (.slice AS ts.length capS) FZ) := HS4.out.mono (.of_below hb5 US4.out) fun _ _ _ _ _ h => h
  have US5 : Hid (Under w5.heap.size FZ) := US4.out.mono hb5.size
  clear HS4 US4
  have hB5 := hB4.trans (hb5.mono hB4.size)
  have HA5 : Hid (Arr w5 (DtR w5) xs (.slice A1 xs.length cap1) F1) := ArrDt.below HA4.out hb5 HU4.out
  have HU5 : Hid (Under w5.heap.size F1) := HU4.out.mono hb5.size
  have KT5 : Hid (Blk w5 k 33 #[.int .i64 t.d, .int .i64 t.i]) := KT4.out.same (hb5.block _ KT4.out.lt)
  clear hB4 HA4 HU4 hb5 KT4
  obtain ⟨AM, capM, rfl, -, -⟩ := haM.form
  have HM5 : Hid (Arr w5 (NatR w5) (ctorsOfL xs t) (.slice AM (ctorsOfL xs t).length capM) FM) := haM
  have UM5 := Lib.hid hfM.under
  clear haM hfM
  clear c04 c14 cl4
  go_wp2_with fail
  refine (ptIn_any (ctorsOfL xs t) n w5 _ FM HM5.out UM5.out).mono ?_
  rintro e w6 ⟨rfl, hb6⟩
  have HL6 : Hid (Arr w6 (TyR w6) ts (.slice AL ts.length capL) FL) := HL5.out.mono (.of_below hb6 UL5.out) fun _ _ _ _ _ h => h
  have UL6 : Hid (Under w6.heap.size FL) := UL5.out.mono hb6.size
  clear HL5 UL5
  have HS6 : Hid (Arr w6 (TyR w6) ts (.slice AS ts.length capS) FZ) := HS5.out.mono (.of_below hb6 US5.out) fun _ _ _ _ _ h => h
  have US6 : Hid (Under w6.heap.size FZ) := US5.out.mono hb6.size
  clear HS5 US5
  have HM6 : Hid (Arr w6 (NatR w6) (ctorsOfL xs t) (.slice AM (ctorsOfL xs t).length capM) FM) := HM5.out.mono (.of_below hb6 UM5.out) fun _ _ _ _ _ h => h
  have UM6 : Hid (Under w6.heap.size FM) := UM5.out.mono hb6.size
  clear HM5 UM5
  have hB6 := hB5.trans (hb6.mono hB5.size)
  have HA6 : Hid (Arr w6 (DtR w6) xs (.slice A1 xs.length cap1) F1) := ArrDt.below HA5.out hb6 HU5.out
  have HU6 : Hid (Under w6.heap.size F1) := HU5.out.mono hb6.size
  have KT6 : Hid (Blk w6 k 33 #[.int .i64 t.d, .int .i64 t.i]) := KT5.out.same (hb6.block _ KT5.out.lt)
  clear hB5 HA5 HU5 hb6 KT5
  cases q0 : hasB (ctorsOfL xs t) n with
  | false =>
    have c06 : w6.cell? ⟨k, 0, none⟩ = some (.int .i64 t.d) := (KT6.out.cell 0).trans (by simp)
    have c16 : w6.cell? ⟨k, 1, none⟩ = some (.int .i64 t.i) := (KT6.out.cell 1).trans (by simp)
    have cl6 := KT6.out.lt
    go_wp2_with fail
    refine (spec_ArgTypes xs t n w6 _ F1 HA6.out HU6.out).mono ?_
    rintro e w7 ⟨v7, F7, rfl, hb7, ha7, -, hf7⟩
    have hB7 := hB6.trans (hb7.mono hB6.size)
    rw [HTS.out] at ha7
    obtain ⟨A7, cap7, rfl, -, -⟩ := ha7.form
    clear ha7 hf7 hb7
    go_wp2
    go_ret
    exact ⟨rfl, hB7⟩
  | true =>
    obtain ⟨-, hw, d, m, hd, hm, hdd, hnm, hag, -, -⟩ := ctorsOfL_at q0
    have hte : ts = argsL xs[d].ctors[m] t.i := by rw [← HTS.out]; exact hag
    have hal : xs[d].ctors[m].args.length ≤ 3 := (hw.ctor hd hm).args
    have HTE := Lib.hid hte
    have HTL : Hid (ts.length = xs[d].ctors[m].args.length) := by unfold Hid; rw [hte, argsL_len]
    have cd : w6.cell? ⟨k, 0, none⟩ = some (.int .i64 (d : Int)) := by rw [← hdd]; exact (KT6.out.cell 0).trans (by simp)
    have klt := KT6.out.lt
    have HNM := Lib.hid hnm
    have g1 : (0 : Int) ≤ (d : Int) := by omega
    have g2 : (d : Int) < (xs.length : Int) := by omega
    have g3 : (0 : Int) ≤ (m : Int) := by omega
    have g4 : (m : Int) < (xs[d].ctors.length : Int) := by omega
    clear hte hag hw q0
    rw [HNM.out]
    clear hnm
    rw [hdd]
    have HDD := Lib.hid hdd
    clear hdd
    obtain ⟨b, off, rfl⟩ := HA6.out.ptr (by omega)
    obtain ⟨A3, cap3, G3, hb3, -, b1, HK, HG, -, hk1, hk2⟩ := ArrDt.at HA6.out HU6.out (Below.refl _ _) d hd
    obtain ⟨b3, off3, rfl⟩ := HK.out.ptr (by omega)
    obtain ⟨A4, cap4, G4, hb4, p0, p1, p2, HT, HTG, -, hc3, hc4⟩ := ArrKt.at HK.out HG.out (Below.refl _ _) m hm
    have hbk : Below w6.heap.size w6 (w6.alloc (.cells #[.string xs[d].ctors[m].name, .slice A4 xs[d].ctors[m].args.length cap4, .int .i64 xs[d].ctors[m].idx] 31)) := (Below.refl _ _).alloc (Nat.le_refl _) _
    have KC : Hid (Blk (w6.alloc (.cells #[.string xs[d].ctors[m].name, .slice A4 xs[d].ctors[m].args.length cap4, .int .i64 xs[d].ctors[m].idx] 31)) w6.heap.size 31 #[.string xs[d].ctors[m].name, .slice A4 xs[d].ctors[m].args.length cap4, .int .i64 xs[d].ctors[m].idx]) := Blk.new _ _ _
    have hBk : Below w.heap.size w (w6.alloc (.cells #[.string xs[d].ctors[m].name, .slice A4 xs[d].ctors[m].args.length cap4, .int .i64 xs[d].ctors[m].idx] 31)) := hB6.trans (hbk.mono hB6.size)
    have HTk : Hid (Arr (w6.alloc (.cells #[.string xs[d].ctors[m].name, .slice A4 xs[d].ctors[m].args.length cap4, .int .i64 xs[d].ctors[m].idx] 31)) (TyR (w6.alloc (.cells #[.string xs[d].ctors[m].name, .slice A4 xs[d].ctors[m].args.length cap4, .int .i64 xs[d].ctors[m].idx] 31))) xs[d].ctors[m].args (.slice A4 xs[d].ctors[m].args.length cap4) G4) := HT.out.mono (.of_below hbk HTG.out) fun _ _ _ _ _ h => h
    have HGk : Hid (Under (w6.alloc (.cells #[.string xs[d].ctors[m].name, .slice A4 xs[d].ctors[m].args.length cap4, .int .i64 xs[d].ctors[m].idx] 31)).heap.size G4) := HTG.out.mono hbk.size
    have HLk : Hid (Arr (w6.alloc (.cells #[.string xs[d].ctors[m].name, .slice A4 xs[d].ctors[m].args.length cap4, .int .i64 xs[d].ctors[m].idx] 31)) (TyR (w6.alloc (.cells #[.string xs[d].ctors[m].name, .slice A4 xs[d].ctors[m].args.length cap4, .int .i64 xs[d].ctors[m].idx] 31))) ts (.slice AL ts.length capL) FL) := HL6.out.mono (.of_below hbk UL6.out) fun _ _ _ _ _ h => h
    have ULk : Hid (Under (w6.alloc (.cells #[.string xs[d].ctors[m].name, .slice A4 xs[d].ctors[m].args.length cap4, .int .i64 xs[d].ctors[m].idx] 31)).heap.size FL) := UL6.out.mono hbk.size
    go_wp2
    clear cd b1 p0 p1 p2 hb3 hb4 hk1 hk2
    generalize (w6.alloc (.cells #[.string xs[d].ctors[m].name, .slice A4 xs[d].ctors[m].args.length cap4, .int .i64 xs[d].ctors[m].idx] 31)) = wk at *
    generalize w6.heap.size = kc at *
    go_loopw [8] (fun iv wr => ∃ i : Nat, i ≤ xs[d].ctors[m].args.length ∧ iv = .int .i64 i ∧ Below wk.heap.size wk wr) (fun iv _ => xs[d].ctors[m].args.length - (intOf iv).toNat)
    case atStart => exact ⟨0, Nat.zero_le _, rfl, Below.refl _ _⟩
    case round =>
      obtain ⟨i, hi, rfl, hB⟩ := hrel
      have y1 : wr.cell? ⟨kc, 1, none⟩ = some (.slice A4 xs[d].ctors[m].args.length cap4) := (hB.cell KC.out.lt).trans ((KC.out.cell 1).trans (by simp))
      have hBr : Below w.heap.size w wr := hBk.trans (hB.mono hBk.size)
      by_cases hil : i < xs[d].ctors[m].args.length
      · have hil2 : i < ts.length := by rw [HTL.out]; exact hil
        obtain ⟨b4, off4, rfl⟩ := HTk.out.ptr (by omega)
        obtain ⟨bl, offl, rfl⟩ := HLk.out.ptr (by omega)
        obtain ⟨hbl, z0, z1⟩ := ArrTy.at HLk.out ULk.out hB i hil2
        obtain ⟨hbt, x1, x2⟩ := ArrTy.at HTk.out HGk.out hB i hil
        have hti : ts[i] = argTy (resIdx xs[d].ctors[m] t.i) xs[d].ctors[m].args[i] := by
          have h : ts[i]? = some (argTy (resIdx xs[d].ctors[m] t.i) xs[d].ctors[m].args[i]) := by
            rw [HTE.out]; unfold argsL; rw [List.getElem?_map, List.getElem?_eq_getElem hil]; rfl
          rw [List.getElem?_eq_getElem hil2] at h
          exact Option.some.inj h
        have g5 : (0 : Int) ≤ (i : Int) := by omega
        have g6 : (i : Int) < (xs[d].ctors[m].args.length : Int) := by omega
        have g7 : (i : Int) < (ts.length : Int) := by omega
        have e1 : decide (i < xs[d].ctors[m].args.length) = true := by simpa using hil
        rw [hti] at z0 z1
        rw [argTy_d] at z0
        cases q1 : decide (xs[d].ctors[m].args[i].i > 0) with
        | true =>
          rw [argTy_i (by simpa using q1)] at z1
          clear hti
          go_wp2_with fail
          go_quiet (fail)
          have hB1 : Below wk.heap.size wk (wr.drewN nq) := below_drewN hB nq
          go_wp2
          go_roundw
          case rel => exact ⟨i + 1, hil, by go_num, hB1⟩
          case measure => (simp [intOf] <;> omega)
        | false =>
          clear hti
          go_wp2_with fail
          go_quiet (fail)
          have hB1 : Below wk.heap.size wk (wr.drewN nq) := below_drewN hB nq
          go_wp2
          go_roundw
          case rel => exact ⟨i + 1, hil, by go_num, hB1⟩
          case measure => (simp [intOf] <;> omega)
      · have e1 : decide (i < xs[d].ctors[m].args.length) = false := by simpa using hil
        have z0 : ((ts.length : Int) == (xs[d].ctors[m].args.length : Int)) = true := by rw [beq_iff_eq, HTL.out]
        go_wp2
        go_ret
        exact ⟨rfl, hBr⟩
end Go.Proofs.Ytbejcgknjnhdpaa.fnArgCount

namespace Go.Proofs.Ytbejcgknjnhdpaa.fnArgCount
open Go.ChangeShapes Go.WideShapes Go.ChangeAt Go.RowKit
open Go.ChangeMaps (open_string shut_string)
set_option linter.unusedVariables false

theorem own : ownKnob Try.prog.godebug = none := by kernel_rfl
theorem laidOut : laidOutB Try.prog = true := by kernel_rfl

set_option maxRecDepth 100000 in
theorem lifted (os : Os) (started : os.Started) (H : Type) (enc : TypeId × Value → H) :
    ReturnsInHanded {} Try.checked os 6 .any (Rows.fnArgCountSpec.pre6 enc Try.prog Try.f6 Rows.fnArgCountRow.domain false) (Rows.fnArgCountSpec.post enc Try.prog Try.f6 false true false false) := by
  refine returnsInHanded_of_change (C := Try.checked) own started (by kernel_rfl) Try.func6
    (ChangeSpec.witness6 (enc := enc) (C := Try.checked) false ⟨#[], #[.slice none 0 0], []⟩ 8 (by kernel_rfl) (by kernel_rfl) (by kernel_rfl) (by kernel_rfl)) ?_
  intro W base args ds gs before hval0 hW hcnd _
  have hval : ∀ (j : Nat) t v, Try.f6.params[j]? = some t → args[j]? = some v → Value.okWide Try.prog W .any base t v := hval0
  have hW' := hW
  obtain ⟨p, q, hA0, hV, rfl, hfz, hnd⟩ := hW
  have hA : DataW.TrodAll enc Try.prog W 0 (fun _ => true) true Try.f6.params.toList args.toList ds p := hA0
  rw [Try.params6] at hA hval
  obtain ⟨v0, vs0, d0, ds0, p0, q0, hargs, rfl, rfl, h0, r0⟩ := trodAll_cons hA
  obtain ⟨rfl, rfl, rfl⟩ := trodAll_nil r0
  obtain rfl : args = #[v0] := by cases args; simp_all
  obtain ⟨rfl, rfl⟩ := trodVars_none hV
  have k0 := h0
  have lt0 : ∀ x ∈ p0, x.block < W.heap.size := by obtain ⟨m, hm⟩ := k0; exact DataW.trod_lt m _ _ _ hm
  obtain ⟨x0, F0, hR0, hU0⟩ := open_Bytes (hval 0 22 v0 rfl rfl) h0
  clear hA0 hval0
  refine (walk x0 v0 F0 hR0 hU0 W rfl).mono fun e W' ⟨he, bel⟩ => ?_
  subst he
  exact ⟨_, rfl, _, _, _, [], _, [], hW', trodAll_mk1 (shut_bool Try.underlying4 _), (trodAll_cons_mk (Below.trod laidOut (by kernel_rfl) (of_decide_eq_true (by kernel_rfl)) k0 bel lt0) trodAll_mk0), rfl, bel.frame _, fun h => by cases h⟩

theorem over : Rows.fnArgCountRow.holds Try.pinned (OpenSpec.ofChange Rows.fnArgCountSpec) :=
  OpenClaim.holds_of_wide 6 Try.f6 rfl rfl rfl rfl rfl rfl rfl ⟨rfl, rfl, rfl, rfl, rfl⟩ rfl rfl rfl rfl rfl (by kernel_rfl) Try.func6 (by kernel_rfl)
    (of_decide_eq_true (by kernel_rfl)) (by unfold Func.isWrapper; first | (rw [if_pos (by decide +kernel)]; kernel_rfl) | (rw [if_neg (by decide +kernel)]; exact ⟨rfl, rfl⟩))
    (fun os started H enc _ => lifted os started H enc)

theorem proved : Rows.FnArgCountSaid := over
end Go.Proofs.Ytbejcgknjnhdpaa.fnArgCount
