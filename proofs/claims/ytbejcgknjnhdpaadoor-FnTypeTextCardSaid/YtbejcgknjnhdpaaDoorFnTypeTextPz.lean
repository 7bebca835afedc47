/-
  FnTypeText: for every argument the law returns true; the card. Conditions: the listed package-level variables hold what the card ties to the program's text.
-/
import Derived.Test.YtbejcgknjnhdpaaDoorFnTypeTextPc
import Derived.Deep.RegionWith
import Derived.Deep.RegionHeld3
import Derived.BigQuiet
import Derived.Test.YtbejcgknjnhdpaaDoorRows
import Derived.Test.YtbejcgknjnhdpaaDoorCards
import Derived.Test.YtbejcgknjnhdpaaDoorTie
import Derived.ProofKit
import Derived.LaidMore
import Derived.OpenShut
import Derived.ShutString
import Derived.ChangeOld
import Derived.Below
import Derived.SevenTiedAt

set_option linter.unusedVariables false
set_option linter.unusedSimpArgs false

namespace Go.Proofs.YtbejcgknjnhdpaaDoor.fnTypeText
open Go.RowKit

set_option maxRecDepth 100000 in
set_option maxHeartbeats 1600000 in
theorem walk {W : World} (x0 : List Int) (v0 : Value) (F0 : List Nat) (hR0 : Arr W (ByR W) x0 v0 F0) (hU0 : Under W.heap.size F0) (x1 : List Int) (v1 : Value) (F1 : List Nat) (hR1 : Arr W (ByR W) x1 v1 F1) (hU1 : Under W.heap.size F1) (w : World) (hw : w = W) :
    Calls Tryd.prog 4 #[v0, v1] w fun e w' => e = .returned (.bool true) ∧ Below w.heap.size w w' := by
  subst hw
  obtain ⟨A0, cap0, rfl, -, -⟩ := hR0.form
  obtain ⟨A1, cap1, rfl, -, -⟩ := hR1.form
  have HR0 := Lib.hid hR0
  have HU0 := Lib.hid hU0
  have HR1 := Lib.hid hR1
  have HU1 := Lib.hid hU1
  clear hR0 hU0 hR1 hU1
  by_cases hlen : 1048576 < x0.length
  · have t0 : decide ((x0.length : Int) > 1048576) = true := decide_eq_true (by omega)
    go_enter Tryd.func4, Tryd.ntmps4
    go_wp2
    go_ret
    exact ⟨rfl, Below.refl _ _⟩
  have t0 : decide ((x0.length : Int) > 1048576) = false := decide_eq_false (by omega)
  by_cases hlen2 : 1048576 < x1.length
  · have t1 : decide ((x1.length : Int) > 1048576) = true := decide_eq_true (by omega)
    go_enter Tryd.func4, Tryd.ntmps4
    go_wp2
    go_ret
    exact ⟨rfl, Below.refl _ _⟩
  have t1 : decide ((x1.length : Int) > 1048576) = false := decide_eq_false (by omega)
  clear hlen hlen2
  go_enter Tryd.func4, Tryd.ntmps4
  go_wp2_with fail
  refine (spec_DrawFormatType x0 w _ F0 HR0.out HU0.out).mono ?_
  rintro e w1 ⟨xs, vx, FX, t, rfl, hb1, ha1, hf1⟩
  obtain ⟨AX, capX, rfl, hc1, hc2⟩ := ha1.form
  have hb2 : Below w1.heap.size w1 (w1.alloc (.cells #[.int .i64 t.d, .int .i64 t.i] 36)) := (Below.refl _ _).alloc (Nat.le_refl _) _
  have hB2 : Below w.heap.size w (w1.alloc (.cells #[.int .i64 t.d, .int .i64 t.i] 36)) := hb1.trans (hb2.mono hb1.size)
  have HA2 : Hid (Arr (w1.alloc (.cells #[.int .i64 t.d, .int .i64 t.i] 36)) (DtR (w1.alloc (.cells #[.int .i64 t.d, .int .i64 t.i] 36))) xs (.slice AX xs.length capX) FX) := ArrDt.below ha1 hb2 hf1.under
  have HX2 : Hid (Under (w1.alloc (.cells #[.int .i64 t.d, .int .i64 t.i] 36)).heap.size FX) := hf1.under.mono hb2.size
  have KT2 : Hid (Blk (w1.alloc (.cells #[.int .i64 t.d, .int .i64 t.i] 36)) w1.heap.size 36 #[.int .i64 t.d, .int .i64 t.i]) := Blk.new _ _ _
  clear ha1 hf1 hb1 hb2
  go_wp2_with fail
  generalize (w1.alloc (.cells #[.int .i64 t.d, .int .i64 t.i] 36)) = w2 at *
  generalize w1.heap.size = k at *
  have c0 : w2.cell? ⟨k, 0, none⟩ = some (.int .i64 t.d) := (KT2.out.cell 0).trans (by simp)
  have c1 : w2.cell? ⟨k, 1, none⟩ = some (.int .i64 t.i) := (KT2.out.cell 1).trans (by simp)
  refine (impl_FormatType xs t w2 _ FX HA2.out HX2.out).mono ?_
  rintro e w3 ⟨rfl, hb3⟩
  have hB3 := hB2.trans (hb3.mono hB2.size)
  have HA3 : Hid (Arr w3 (DtR w3) xs (.slice AX xs.length capX) FX) := ArrDt.below HA2.out hb3 HX2.out
  have HX3 : Hid (Under w3.heap.size FX) := HX2.out.mono hb3.size
  have KT3 : Hid (Blk w3 k 36 #[.int .i64 t.d, .int .i64 t.i]) := KT2.out.same (hb3.block _ KT2.out.lt)
  have HR3 : Hid (Arr w3 (ByR w3) x1 (.slice A1 x1.length cap1) F1) := ArrBy.mono HR1.out (.of_below hB3 HU1.out)
  have HU3 : Hid (Under w3.heap.size F1) := HU1.out.mono hB3.size
  clear c0 c1 hb3 hB2 HA2 HX2 KT2 HR0 HU0 HR1 HU1
  go_wp2_with fail
  refine (spec_DrawFormatType x1 w3 _ F1 HR3.out HU3.out).mono ?_
  rintro e w4 ⟨ys, vy, FY, u, rfl, hb4, ha4, hf4⟩
  obtain ⟨AY, capY, rfl, hc3, hc4⟩ := ha4.form
  have hb5 : Below w4.heap.size w4 (w4.alloc (.cells #[.int .i64 u.d, .int .i64 u.i] 36)) := (Below.refl _ _).alloc (Nat.le_refl _) _
  have hb35 : Below w3.heap.size w3 (w4.alloc (.cells #[.int .i64 u.d, .int .i64 u.i] 36)) := hb4.trans (hb5.mono hb4.size)
  have hB5 : Below w.heap.size w (w4.alloc (.cells #[.int .i64 u.d, .int .i64 u.i] 36)) := hB3.trans (hb35.mono hB3.size)
  have HA5 : Hid (Arr (w4.alloc (.cells #[.int .i64 u.d, .int .i64 u.i] 36)) (DtR (w4.alloc (.cells #[.int .i64 u.d, .int .i64 u.i] 36))) xs (.slice AX xs.length capX) FX) := ArrDt.below HA3.out hb35 HX3.out
  have HX5 : Hid (Under (w4.alloc (.cells #[.int .i64 u.d, .int .i64 u.i] 36)).heap.size FX) := HX3.out.mono hb35.size
  have KT5 : Hid (Blk (w4.alloc (.cells #[.int .i64 u.d, .int .i64 u.i] 36)) k 36 #[.int .i64 t.d, .int .i64 t.i]) := KT3.out.same (hb35.block _ KT3.out.lt)
  have KU5 : Hid (Blk (w4.alloc (.cells #[.int .i64 u.d, .int .i64 u.i] 36)) w4.heap.size 36 #[.int .i64 u.d, .int .i64 u.i]) := Blk.new _ _ _
  clear ha4 hf4 hb4 hb5 hb35 hB3 HA3 HX3 KT3 HR3 HU3
  go_wp2_with fail
  generalize (w4.alloc (.cells #[.int .i64 u.d, .int .i64 u.i] 36)) = w5 at *
  generalize w4.heap.size = k2 at *
  have d0 : w5.cell? ⟨k2, 0, none⟩ = some (.int .i64 u.d) := (KU5.out.cell 0).trans (by simp)
  have d1 : w5.cell? ⟨k2, 1, none⟩ = some (.int .i64 u.i) := (KU5.out.cell 1).trans (by simp)
  refine (impl_FormatType xs u w5 _ FX HA5.out HX5.out).mono ?_
  rintro e w6 ⟨rfl, hb6⟩
  have hB6 := hB5.trans (hb6.mono hB5.size)
  have HA6 : Hid (Arr w6 (DtR w6) xs (.slice AX xs.length capX) FX) := ArrDt.below HA5.out hb6 HX5.out
  have HX6 : Hid (Under w6.heap.size FX) := HX5.out.mono hb6.size
  have KT6 : Hid (Blk w6 k 36 #[.int .i64 t.d, .int .i64 t.i]) := KT5.out.same (hb6.block _ KT5.out.lt)
  have KU6 : Hid (Blk w6 k2 36 #[.int .i64 u.d, .int .i64 u.i]) := KU5.out.same (hb6.block _ KU5.out.lt)
  have c0 : w6.cell? ⟨k, 0, none⟩ = some (.int .i64 t.d) := (KT6.out.cell 0).trans (by simp)
  have c1 : w6.cell? ⟨k, 1, none⟩ = some (.int .i64 t.i) := (KT6.out.cell 1).trans (by simp)
  clear d0 d1 hb6 hB5 HA5 HX5 KT5 KU5
  obtain ⟨S, hS⟩ : ∃ s, fmtTy xs t = s := ⟨_, rfl⟩
  obtain ⟨X, hX⟩ : ∃ s, fmtTy xs u = s := ⟨_, rfl⟩
  have HS := Lib.hid hS
  have HX := Lib.hid hX
  rw [HS.out, HX.out]
  clear hS hX
  go_wp2_with fail
  refine (spec_FormatType xs t w6 _ FX HA6.out HX6.out).mono ?_
  rintro e w7 ⟨rfl, hb7⟩
  have hB7 := hB6.trans (hb7.mono hB6.size)
  have HA7 : Hid (Arr w7 (DtR w7) xs (.slice AX xs.length capX) FX) := ArrDt.below HA6.out hb7 HX6.out
  have HX7 : Hid (Under w7.heap.size FX) := HX6.out.mono hb7.size
  have KT7 : Hid (Blk w7 k 36 #[.int .i64 t.d, .int .i64 t.i]) := KT6.out.same (hb7.block _ KT6.out.lt)
  have KU7 : Hid (Blk w7 k2 36 #[.int .i64 u.d, .int .i64 u.i]) := KU6.out.same (hb7.block _ KU6.out.lt)
  clear c0 c1 hb7 hB6 HA6 HX6 KT6 KU6
  have c0 : w7.cell? ⟨k, 0, none⟩ = some (.int .i64 t.d) := (KT7.out.cell 0).trans (by simp)
  have c1 : w7.cell? ⟨k, 1, none⟩ = some (.int .i64 t.i) := (KT7.out.cell 1).trans (by simp)
  rw [HS.out]
  go_wp2_with fail
  refine (impl_TypeValid xs t w7 _ FX HA7.out HX7.out).mono ?_
  rintro e w8 ⟨rfl, hb8⟩
  have hB8 := hB7.trans (hb8.mono hB7.size)
  have KT8 : Hid (Blk w8 k 36 #[.int .i64 t.d, .int .i64 t.i]) := KT7.out.same (hb8.block _ KT7.out.lt)
  have KU8 : Hid (Blk w8 k2 36 #[.int .i64 u.d, .int .i64 u.i]) := KU7.out.same (hb8.block _ KU7.out.lt)
  clear c0 c1 hb8 hB7 HA7 HX7 KT7 KU7
  have c0 : w8.cell? ⟨k, 0, none⟩ = some (.int .i64 t.d) := (KT8.out.cell 0).trans (by simp)
  have c1 : w8.cell? ⟨k, 1, none⟩ = some (.int .i64 t.i) := (KT8.out.cell 1).trans (by simp)
  have d0 : w8.cell? ⟨k2, 0, none⟩ = some (.int .i64 u.d) := (KU8.out.cell 0).trans (by simp)
  have d1 : w8.cell? ⟨k2, 1, none⟩ = some (.int .i64 u.i) := (KU8.out.cell 1).trans (by simp)
  clear KT8 KU8
  cases q0 : typeValidB xs t with
  | false =>
    have s0 : S.toList.isEmpty = true := by rw [ByteArray.toList_eq, ← HS.out, fmtTy_no q0]; rfl
    go_wp2
    go_ret
    exact ⟨rfl, hB8⟩
  | true =>
    obtain ⟨hw, hto⟩ := typeValid_split q0
    have s0 : S.toList.isEmpty = false := by
      rw [ByteArray.toList_eq, ← HS.out, fmtTy_yes q0]
      have h := tyT_pos hw hto
      show (tyT xs t).isEmpty = false
      cases hh : tyT xs t with
      | nil => exact absurd hh h
      | cons a l => rfl
    have hwo : worldOk xs = true := by unfold typeValidB at q0; rw [Bool.and_eq_true] at q0; exact q0.1
    cases q1 : typeValidB xs u with
    | false =>
      have s1 : X.toList.isEmpty = true := by rw [ByteArray.toList_eq, ← HX.out, fmtTy_no q1]; rfl
      clear hw hto hwo
      go_wp2
      go_ret
      exact ⟨rfl, hB8⟩
    | true =>
      obtain ⟨-, huo⟩ := typeValid_split q1
      have s1 : X.toList.isEmpty = false := by
        rw [ByteArray.toList_eq, ← HX.out, fmtTy_yes q1]
        have h := tyT_pos hw huo
        show (tyT xs u).isEmpty = false
        cases hh : tyT xs u with
        | nil => exact absurd hh h
        | cons a l => rfl
      have hinj : S = X → t = u := fun e => tyT_inj hwo hw hto huo (by
        have h : bs (tyT xs t) = bs (tyT xs u) := by rw [← fmtTy_yes q0, ← fmtTy_yes q1, HS.out, HX.out, e]
        have h2 := congrArg tl h
        rwa [tl_bs, tl_bs] at h2)
      by_cases e : t = u
      · have r0 : (S.toList == X.toList) = true := bytes_beq_true (by rw [← HS.out, ← HX.out, e])
        have r1 : (t.d == u.d) = true := by rw [e]; simp
        have r2 : (t.i == u.i) = true := by rw [e]; simp
        clear hinj hw hto huo hwo e q0 q1
        go_wp2
        go_ret
        exact ⟨rfl, hB8⟩
      · have r0 : (S.toList == X.toList) = false := by
          rw [Bool.eq_false_iff]; intro h; exact e (hinj ((bytes_beq_iff S X).1 h))
        have hne : ¬ (t.d = u.d ∧ t.i = u.i) := fun h => e (by obtain ⟨a, b⟩ := t; obtain ⟨c, d⟩ := u; simp only at h; rw [h.1, h.2])
        clear hinj hw hto huo hwo e q0 q1
        cases r1 : (t.d == u.d) with
        | false =>
          clear hne
          go_wp2
          go_ret
          exact ⟨rfl, hB8⟩
        | true =>
          have r2 : (t.i == u.i) = false := by rw [beq_eq_false_iff_ne]; intro h; exact hne ⟨beq_iff_eq.1 r1, h⟩
          clear hne
          go_wp2
          go_ret
          exact ⟨rfl, hB8⟩
end Go.Proofs.YtbejcgknjnhdpaaDoor.fnTypeText

namespace Go.Proofs.YtbejcgknjnhdpaaDoor.fnTypeText
open Go.ChangeShapes Go.WideShapes Go.ChangeAt Go.RowKit
open Go.ChangeMaps (open_string shut_string)
set_option linter.unusedVariables false

theorem own : ownKnob Tryd.prog.godebug = none := by kernel_rfl
theorem laidOut : laidOutB Tryd.prog = true := by kernel_rfl
theorem door_met (os : Os) (args : Array Value) : laidMetH Tryd.prog Rows.fnTypeTextRow.laid ((World.doorLaid Tryd.prog 24 os).forCall (fun _ _ => 0) ⟨#[], args, []⟩).memory :=
  laidMetH_of_parts3 (fuel := 8) (laidMet_of_run' 8 (by kernel_rfl) (by kernel_rfl)) (by kernel_rfl) (by kernel_rfl)

set_option maxRecDepth 100000 in
theorem lifted (os : Os) (started : os.Started) (H : Type) (enc : TypeId × Value → H) :
    ReturnsInHanded {} Tryd.checked os 4 .any (fun w args => (Rows.fnTypeTextSpec.pre enc Tryd.prog Tryd.f4 [] false w args ∧ laidMetH Tryd.prog Rows.fnTypeTextRow.laid w) ∧ sizedMet enc Tryd.prog Tryd.f4 (OpenSpec.ofChange Rows.fnTypeTextSpec) false w args)
      (Rows.fnTypeTextSpec.post enc Tryd.prog Tryd.f4 false true false false) := by
  refine returnsInHanded_of_change_and (C := Tryd.checked) (X := fun w _ => laidMetH Tryd.prog Rows.fnTypeTextRow.laid w) (fun _ _ _ hh h => h.of_heap hh) own started (by kernel_rfl) Tryd.func4
    (ChangeSpec.witness_shaped (enc := enc) (C := Tryd.checked) (os := os) (X := fun w _ => laidMetH Tryd.prog Rows.fnTypeTextRow.laid w) false (World.doorLaid Tryd.prog 24 os) #[.slice none 0 0, .slice none 0 0] 8 rfl (World.shaped_of_RefB (by kernel_rfl) (by kernel_rfl)) (by kernel_rfl) (by kernel_rfl) (by kernel_rfl) (door_met os _)) ?_
  intro W base args ds gs before hval0 hW _ _ _ _
  have hval : ∀ (j : Nat) t v, Tryd.f4.params[j]? = some t → args[j]? = some v → Value.okWide Tryd.prog W .any base t v := hval0
  have hW' := hW
  obtain ⟨p, q, hA0, hV, rfl, hfz, hnd⟩ := hW
  have hA : DataW.TrodAll enc Tryd.prog W 0 (fun _ => true) true Tryd.f4.params.toList args.toList ds p := hA0
  rw [Tryd.params4] at hA hval
  obtain ⟨v0, vs0, d0, ds0, p0, q0, hargs, rfl, rfl, h0, r0⟩ := trodAll_cons hA
  obtain ⟨v1, vs1, d1, ds1, p1, q1, rfl, rfl, rfl, h1, r1⟩ := trodAll_cons r0
  obtain ⟨rfl, rfl, rfl⟩ := trodAll_nil r1
  obtain rfl : args = #[v0, v1] := by cases args; simp_all
  obtain ⟨rfl, rfl⟩ := trodVars_none hV
  have k0 := h0
  have lt0 : ∀ x ∈ p0, x.block < W.heap.size := by obtain ⟨m, hm⟩ := k0; exact DataW.trod_lt m _ _ _ hm
  have k1 := h1
  have lt1 : ∀ x ∈ p1, x.block < W.heap.size := by obtain ⟨m, hm⟩ := k1; exact DataW.trod_lt m _ _ _ hm
  obtain ⟨x0, F0, hR0, hU0⟩ := open_Bytes (hval 0 22 v0 rfl rfl) h0
  obtain ⟨x1, F1, hR1, hU1⟩ := open_Bytes (hval 1 22 v1 rfl rfl) h1
  clear hA0 hval0
  refine (walk x0 v0 F0 hR0 hU0 x1 v1 F1 hR1 hU1 W rfl).mono fun e W' ⟨he, bel⟩ => ?_
  subst he
  exact ⟨_, rfl, _, _, _, [], _, [], hW', trodAll_mk1 (shut_bool Tryd.underlying4 _), (trodAll_cons_mk (Below.trod laidOut (by kernel_rfl) (of_decide_eq_true (by kernel_rfl)) k0 bel lt0) (trodAll_cons_mk (Below.trod laidOut (by kernel_rfl) (of_decide_eq_true (by kernel_rfl)) k1 bel lt1) trodAll_mk0)), rfl, bel.frame _, fun h => by cases h⟩

theorem over : Rows.fnTypeTextRow.holds Tryd.pinned (OpenSpec.ofChange Rows.fnTypeTextSpec) :=
  OpenClaim.holds_of_wide 4 Tryd.f4 rfl rfl rfl rfl rfl rfl rfl ⟨rfl, rfl, rfl, rfl, rfl⟩ rfl rfl rfl rfl rfl (by kernel_rfl) Tryd.func4 (by kernel_rfl)
    (of_decide_eq_true (by kernel_rfl)) (by unfold Func.isWrapper; first | (rw [if_pos (by decide +kernel)]; kernel_rfl) | (rw [if_neg (by decide +kernel)]; exact ⟨rfl, rfl⟩))
    (fun os started H enc _ => lifted os started H enc)

theorem proved : Rows.FnTypeTextCardSaid :=
  Claim7.holds_tied_plain_at .later _ _ _ _ _
    over (fun _ h => by cases h) (by kernel_rfl) (fun _ h => by cases h) fnTypeText_row_tie rfl ⟨rfl, rfl⟩ (by kernel_rfl) rfl
    (fun f fn hf hfn => by
      obtain rfl : f = 4 := Option.some.inj ((show Tryd.prog.funcNamed "loop.example/matchcompiler/laws.FnTypeText" = some 4 by kernel_rfl).symm.trans hf) |>.symm
      obtain rfl : fn = Tryd.f4 := (Option.some.inj (Tryd.func4.symm.trans hfn)).symm
      exact ⟨by kernel_rfl, fun j t ht => by
        rw [Tryd.params4] at ht
        have hm : t ∈ [22, 22] := by simpa using Array.mem_of_getElem? ht
        have hall : ([22, 22].all fun u => !Tryd.prog.wantsStandIn u) = true := by kernel_rfl
        exact (show Tryd.prog.wantsStandIn t = false by simpa using List.all_eq_true.1 hall t hm)⟩)
    (by kernel_rfl)
end Go.Proofs.YtbejcgknjnhdpaaDoor.fnTypeText
