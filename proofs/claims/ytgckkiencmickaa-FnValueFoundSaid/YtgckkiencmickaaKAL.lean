/-
  Lemmas and contracts of functions: ValuesUpTo of the program. Conditions: none. A value is found among the values up to its depth (plain). Conditions: none.
-/
import Derived.Test.YtgckkiencmickaaKAK
import Derived.Test.YtgckkiencmickaaKAB

set_option linter.unusedVariables false
set_option linter.unusedSimpArgs false

namespace Go.Proofs.Ytgckkiencmickaa
open Go.RowKit

set_option maxRecDepth 100000 in
set_option maxHeartbeats 6400000 in
theorem impl_ValuesUpTo (xs : List Dt) (t : Ty) (dp : Int) (w : World) (x : Value) (F : List Nat) (hx : Arr w (DtR w) xs x F) (hf : Under w.heap.size F) :
    Calls Try.prog 22 #[x, .agg #[.int .i64 t.d, .int .i64 t.i], .int .i64 dp] w (MadeVals2 (uptoV xs t dp) (uptoB xs t dp) w) := by
  obtain ⟨A, cap, rfl, hc1, hc2⟩ := hx.form
  obtain ⟨i0, hi, hz0, hz1, hz2⟩ := info_parts info_VE
  have HI := Lib.hid hi
  have HZ0 := Lib.hid hz0
  have HZ1 := Lib.hid hz1
  have HZ2 := Lib.hid hz2
  have HX := Lib.hid hx
  have HF := Lib.hid hf
  clear hi hz0 hz1 hz2 hx hf
  go_enter Try.func22, Try.ntmps22
  go_wp2_with fail
  obtain ⟨W2, hW2⟩ : ∃ W2, W2 = (w.alloc (.cells #[.int .i64 t.d, .int .i64 t.i] 36)) := ⟨_, rfl⟩
  have hB0 : Below w.heap.size w W2 := by rw [hW2]; exact (Below.refl _ _).alloc (Nat.le_refl _) _
  have KT : Hid (Blk W2 w.heap.size 36 #[.int .i64 t.d, .int .i64 t.i]) := by rw [hW2]; exact Blk.new w _ _
  rw [← hW2]
  clear hW2
  have y0 : W2.cell? ⟨w.heap.size, 0, none⟩ = some (.int .i64 t.d) := (KT.out.cell 0).trans (by simp)
  have y1 : W2.cell? ⟨w.heap.size, 1, none⟩ = some (.int .i64 t.i) := (KT.out.cell 1).trans (by simp)
  have ylt := KT.out.lt
  go_wp2_with fail
  refine (impl_TypeValid xs t W2 _ F (ArrDt.below HX.out hB0 HF.out) (HF.out.mono hB0.size)).mono ?_
  rintro e w3 ⟨rfl, hb3⟩
  have hB3 := hB0.trans (hb3.mono hB0.size)
  have KT3 := Lib.hid (KT.out.same (hb3.block _ KT.out.lt))
  clear hb3 KT y0 y1 ylt hB0
  cases e1 : typeValidB xs t with
  | false =>
    have HE : Hid (uptoB xs t dp = false) := by unfold Hid uptoB; rw [e1]; rfl
    clear e1
    have HFin : Hid (MadeVals2 (uptoV xs t dp) (uptoB xs t dp) w (.returned (.tuple #[.slice none 0 0, .bool false])) w3) := ⟨_, [], by rw [HE.out], hB3, by rw [uptoV_no HE.out]; exact Arr.nil, Free.nil _, Fresh.nil _ _⟩
    go_wp2
    go_ret2
    exact HFin.out
  | true =>
    obtain ⟨hw, hto⟩ := typeValid_split e1
    have HW := Lib.hid hw
    have HT := Lib.hid (typeOkB_tyIn hto)
    have HE1 := Lib.hid e1
    clear e1 hw hto
    go_wp2_with fail
    refine (impl_within dp 0 4 w3).mono ?_
    rintro e w4 ⟨rfl, hb4⟩
    subst hb4
    have hB4 := hB3
    have KT4 := KT3
    clear KT3
    cases e2 : withinB dp 0 4 with
    | false =>
      have HE : Hid (uptoB xs t dp = false) := by unfold Hid uptoB; rw [HE1.out, e2]; rfl
      clear e2
      have HFin : Hid (MadeVals2 (uptoV xs t dp) (uptoB xs t dp) w (.returned (.tuple #[.slice none 0 0, .bool false])) w3) := ⟨_, [], by rw [HE.out], hB4, by rw [uptoV_no HE.out]; exact Arr.nil, Free.nil _, Fresh.nil _ _⟩
      go_wp2
      go_ret2
      exact HFin.out
    | true =>
      have hr := (withinB_iff _ _ _).1 e2
      obtain ⟨n, rfl⟩ : ∃ n : Nat, dp = (n : Int) := ⟨dp.toNat, by omega⟩
      have hn4 : n ≤ 4 := by omega
      have HEQ : Hid (uptoB xs t (n : Int) = decide ((valsL xs n t).length ≤ 400)) := by unfold Hid uptoB; rw [HE1.out, e2]; rfl
      have HEV : Hid (uptoB xs t (n : Int) = true → uptoV xs t (n : Int) = valsL xs n t) := fun h => uptoV_yes h
      clear e2 hr
      have y0 : w3.cell? ⟨w.heap.size, 0, none⟩ = some (.int .i64 t.d) := (KT4.out.cell 0).trans (by simp)
      have y1 : w3.cell? ⟨w.heap.size, 1, none⟩ = some (.int .i64 t.i) := (KT4.out.cell 1).trans (by simp)
      have ylt := KT4.out.lt
      go_wp2_with fail
      refine (impl_countValues n xs HW.out t HT.out (by omega) w3 _ F (ArrDt.below HX.out hB4 HF.out) (HF.out.mono hB4.size)).mono ?_
      rintro e w5 ⟨rfl, hb5⟩
      have hB5 := hB4.trans (hb5.mono hB4.size)
      have KT5 := Lib.hid (KT4.out.same (hb5.block _ KT4.out.lt))
      have hbig := cntU_big xs n t
      clear hb5 KT4 y0 y1 ylt
      by_cases hc : 400 < cntU xs n t
      · have e3 : decide ((cntU xs n t : Int) > 400) = true := by simp; omega
        have HE : Hid (uptoB xs t (n : Int) = false) := by rw [HEQ.out]; exact decide_eq_false (by omega)
        clear hbig hc
        generalize cntU xs n t = cv at *
        have HFin : Hid (MadeVals2 (uptoV xs t (n : Int)) (uptoB xs t (n : Int)) w (.returned (.tuple #[.slice none 0 0, .bool false])) w5) := ⟨_, [], by rw [HE.out], hB5, by rw [uptoV_no HE.out]; exact Arr.nil, Free.nil _, Fresh.nil _ _⟩
        go_wp2
        go_ret2
        exact HFin.out
      · have e3 : decide ((cntU xs n t : Int) > 400) = false := by simp; omega
        have hlen : (valsL xs n t).length ≤ 400 := by omega
        have HE : Hid (uptoB xs t (n : Int) = true) := by rw [HEQ.out]; exact decide_eq_true hlen
        have HVE := Lib.hid (HEV.out HE.out)
        have HSM : Hid (∀ v ∈ valsL xs n t, v.size ≤ 60) := fun v hv => by
          have := (vals_small HW.out hn4 HT.out hv).1
          unfold nodes at this
          omega
        clear hbig hc
        generalize cntU xs n t = cv at *
        have y0 : w5.cell? ⟨w.heap.size, 0, none⟩ = some (.int .i64 t.d) := (KT5.out.cell 0).trans (by simp)
        have y1 : w5.cell? ⟨w.heap.size, 1, none⟩ = some (.int .i64 t.i) := (KT5.out.cell 1).trans (by simp)
        have ylt := KT5.out.lt
        go_wp2_with fail
        refine (impl_values n xs HW.out t HT.out (by omega) hlen w5 _ F (ArrDt.below HX.out hB5 HF.out) (HF.out.mono hB5.size)).mono ?_
        rintro e w6 ⟨v6, F6, rfl, hb6, ha6, hf6⟩
        have hB6 := hB5.trans (hb6.mono hB5.size)
        have HA6 := Lib.hid ha6
        have HU6 := Lib.hid hf6.under
        obtain ⟨A6, cap6, rfl, -, -⟩ := ha6.form
        generalize valsL xs n t = vs at *
        clear ha6 hf6 hb6 KT5 y0 y1 ylt e3
        go_wp2
        go_loopw [8, 32] (fun ov kv wr => ∃ k : Nat, ∃ Fo : List Nat, k ≤ vs.length ∧ kv = .int .i64 k ∧ Hid (Own wr w6.heap.size 25 3 VR (kidTo vs k) ov Fo) ∧ Hid (Free wr Fo) ∧ Hid (∀ b ∈ Fo, w6.heap.size ≤ b) ∧ Below w6.heap.size w6 wr) (fun _ kv _ => vs.length - (intOf kv).toNat)
        case atStart => exact ⟨0, [], Nat.zero_le _, rfl, (show Own _ _ _ _ _ (kidTo vs 0) _ _ from Own.nil _ _ _ _ _), Free.nil _, (fun b hb => by cases hb), Below.refl _ _⟩
        case round =>
          obtain ⟨k, Fo, hk, rfl, HO, HFo, HLo, hB⟩ := hrel
          obtain ⟨oA, ocap, hov, -, -⟩ := HO.out.form
          subst hov
          have hkl := kidTo_len vs k
          by_cases hlt : k < vs.length
          · have g1 : (0 : Int) ≤ (k : Int) := by omega
            have g2 : (k : Int) < (vs.length : Int) := by omega
            obtain ⟨b9, off9, rfl⟩ := HA6.out.ptr (by omega)
            obtain ⟨A7, cap7, G7, hb9, n0, n1, n2, HV7, HG7, -, -, -⟩ := ArrV.at HA6.out HU6.out hB k hlt
            have HS := Lib.hid (kidTo_succ vs k hlt)
            have HZK := Lib.hid (Nat.le_trans (HSM.out vs[k] (List.getElem_mem hlt)) (show 60 ≤ 1048576 by omega))
            obtain ⟨kq, hkq⟩ : ∃ u, u = vs[k] := ⟨_, rfl⟩
            rw [← hkq] at n0 n1 n2 HV7 HS HZK
            clear hkq
            have hmx : (kidTo vs k).length + 1 ≤ maxLen := by unfold maxLen; omega
            have hby : ((kidTo vs k).length + 1) * 40 ≤ 140737488355328 := by omega
            go_wp2_with fail
            obtain ⟨wk, hwk⟩ : ∃ X, X = (wr.alloc (.cells #[.int .i64 kq.c, .int .i64 kq.n, .slice A7 kq.ks.length cap7] 25)) := ⟨_, rfl⟩
            have hbk : Below wr.heap.size wr wk := by rw [hwk]; exact (Below.refl _ _).alloc (Nat.le_refl _) _
            rw [← hwk]
            clear hwk n0 n1 n2 hb9
            refine (impl_ownValue kq wk _ G7 ((HV7.out.below hB HG7.out).below hbk (HG7.out.mono hB.size)) (HG7.out.mono (Nat.le_trans hB.size hbk.size)) HZK.out).mono ?_
            rintro e w8 ⟨cs8, F8, rfl, hb8, hp8, hfr8, hfs8⟩
            obtain ⟨kv8, rfl, ha8⟩ := (VR_iff _ _ _).1 hp8
            obtain ⟨A8, cap8, rfl, -, -⟩ := ha8.form
            have hbr8 : Below wr.heap.size wr w8 := hbk.trans (hb8.mono hbk.size)
            have HO8 := Lib.hid (HO.out.below (fun x cs G hk h => VR_mono' _ _ x cs G hk h) hbr8)
            have HP8 := Lib.hid hp8
            have HFR8 := Lib.hid hfr8
            have HFS8 : Hid (∀ b ∈ F8, wr.heap.size ≤ b ∧ b < w8.heap.size) := fun b hb => ⟨Nat.le_trans hbk.size (hfs8 b hb).1, (hfs8 b hb).2⟩
            have hB8 : Below w6.heap.size w6 w8 := hB.trans (hbr8.mono hB.size)
            have HBR := Lib.hid hbr8
            clear ha8 hp8 hfr8 hfs8 hb8 hbk hbr8
            go_wp2_with (at_builtin; refine Halt.mk ?_)
            refine Halt.of (wpList_push1 (P := Try.prog) rfl _ _ 23 rfl i0 _ 40 Try.underlying23 HI.out HZ0.out HZ1.out HZ2.out rfl (by decide) VR_len' VR_mono' (by rfl) HO8.out kq 25 [.int .i64 kq.c, .int .i64 kq.n, .slice A8 kq.ks.length cap8] F8 _ (by rfl) (by simp) (by simp [Value.oneCell']) HP8.out (fun b hb => (HFS8.out b hb).2) (fun g hg hgF => Nat.lt_irrefl _ (Nat.lt_of_lt_of_le (HO.out.row g hg).2 (HFS8.out g hgF).1)) hmx hby hB8.size ?_)
            intro g cp w9 hown9 hgr9 hat9
            have hB9 : Below w6.heap.size w6 w9 := (hB8.alloc hB8.size _).grown hgr9 (by have := hB8.size; simp; omega) (fun g hg => (HO.out.row g (mem_rowOf.2 hg)).1)
            have HF9 : Hid (Free w9 (Fo ++ F8)) := push_free HFo.out HO.out.under HBR.out HFR8.out HFS8.out hgr9 HO.out.apart (fun g hg => (HO.out.row g hg).2)
            have HL9 : Hid (∀ b ∈ Fo ++ F8, w6.heap.size ≤ b) := fun b hb => by
              rcases List.mem_append.1 hb with hb | hb
              · exact HLo.out b hb
              · exact Nat.le_trans hB.size (HFS8.out b hb).1
            have HO9 := Lib.hid hown9
            clear hown9 hgr9 hat9
            go_wp2
            go_roundw
            case rel => exact ⟨k + 1, _, hlt, by go_num, (by rw [HS.out]; exact HO9.out), HF9.out, HL9.out, hB9⟩
            case measure => (simp [intOf] <;> omega)
          · have HAL := Lib.hid (kidTo_all vs (Nat.le_of_not_lt hlt))
            have HFin : Hid (MadeVals2 (uptoV xs t (n : Int)) (uptoB xs t (n : Int)) w (.returned (.tuple #[.slice oA (kidTo vs k).length ocap, .bool true])) wr) := by
              refine ⟨_, _, by rw [HE.out], hB6.trans (hB.mono hB6.size), ?_, HO.out.free HFo.out, HO.out.fresh hB6.size (fun b hb => Nat.le_trans hB6.size (HLo.out b hb))⟩
              have h := HO.out.arr
              rw [HAL.out] at h
              rw [HVE.out, HAL.out]
              exact h
            go_wp2
            go_ret2
            exact HFin.out
end Go.Proofs.Ytgckkiencmickaa

namespace Go.Proofs.Ytgckkiencmickaa
open Go.RowKit

/-- a value is among the values up to its depth, where they are listed -/
theorem found_mem {xs : List Dt} {t : Ty} {v : V} (h1 : valueValidB xs t v = true) (hb : uptoB xs t (v.depth : Int) = true) : v ∈ uptoV xs t (v.depth : Int) := by
  rw [uptoV_yes hb, Int.toNat_natCast, mem_vals]
  unfold valueValidB valueOkB at h1
  simp only [Bool.and_eq_true] at h1
  exact fitsV_at xs 10 t _ h1.2.1 _ (Nat.le_refl _)
theorem upto_len {xs : List Dt} {t : Ty} {dp : Int} : (uptoV xs t dp).length ≤ 400 := by
  cases h : uptoB xs t dp with
  | true => rw [uptoV_yes h]; exact (upto_split h).2.2.2
  | false => rw [uptoV_no h]; exact Nat.zero_le _
end Go.Proofs.Ytgckkiencmickaa
