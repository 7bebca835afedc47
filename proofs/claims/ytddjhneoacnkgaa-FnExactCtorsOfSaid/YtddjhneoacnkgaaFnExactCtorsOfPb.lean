/-
  Lemmas and contracts of functions: l1Ctors of the reference, and CtorsOf of both. Conditions: none for CtorsOf. eqIntS at equal lists. Conditions: both stand for the same list. Writing every part of a datum anew (mark) and reading it back (held): what changes in memory. Conditions: none. markText: a text for a number. Conditions: the number is between 0 and 1099511627776. markTypeS: every part is written anew. Conditions: the parts are no more than 1099511627776. markCtorS: every part is written anew. Conditions: the parts are no more than 1099511627776. markDataS: every part is written anew. Conditions: the parts are no more than 1099511627776. markIntS: every part is written anew. Conditions: the parts are no more than 1099511627776. heldIntS: what mark wrote is there. Conditions: the parts are no more than 1099511627776. What comes in as an argument (slices of structs, trees) lies in memory as the plain data say. Conditions: none. A Type that comes in as an argument lies in memory as the plain data say. Conditions: none. A Ctor that comes in as an argument lies in memory as the plain data say. Conditions: none. A Data that comes in as an argument lies in memory as the plain data say. Conditions: none.
-/
import Derived.Test.YtddjhneoacnkgaaFnExactCtorsOfPa
import Derived.Deep.RegionHeld3
import Derived.Deep.RegionWith
import Derived.Test.YtddjhneoacnkgaaChecked
import Derived.Deep.QuietTactic
import Derived.BigQuiet
import Derived.Laws.BytesArg
import Derived.ProofKit
import Derived.ChangeArms
import Derived.Deep.Fields

namespace Go.Proofs.Ytddjhneoacnkgaa
open Go.RowKit

/-- what CtorsOf gives -/
def ctorsOfL (xs : List Dt) (t : Ty) : List Int := if typeValidB xs t = true then ctorsL xs t else []
theorem sumBy_one {α : Type} {f : α → Nat} (h : ∀ x, f x = 1) (xs : List α) : sumBy f xs = xs.length := by
  induction xs with
  | nil => rfl
  | cons x xs ih => rw [sumBy, ih, h, List.length_cons]; omega
theorem ctorsOfL_len (xs : List Dt) (t : Ty) : (ctorsOfL xs t).length ≤ 4 := by
  unfold ctorsOfL
  split
  · rename_i h
    obtain ⟨hw, ht⟩ := typeValid_split h
    rcases typeOkB_in ht with hd | ⟨d, hd, hdl⟩
    · rw [ctorsL_int hd]; simp
    · obtain ⟨t1, t2⟩ := t
      simp only at hd
      subst hd
      rw [ctorsL_data hdl]
      exact Nat.le_trans (fitTo_len _ _ _) (hw.at hdl).hi
  · simp

set_option maxRecDepth 100000 in
set_option maxHeartbeats 1600000 in
theorem spec_l1Fits (c : Kt) (i : Int) (A : Option Addr) (n cap : Nat) (w : World) : Calls Try.prog 85 #[.agg #[.string c.name, .slice A n cap, .int .i64 c.idx], .int .i64 i] w fun e w' => e = .returned (.bool (fitsB c i)) ∧ Below w.heap.size w w' := by
  cases q1 : (c.idx == 0) with
  | true =>
    have hf : Hid (fitsB c i = true) := by unfold Hid fitsB; rw [q1, Bool.true_or]
    go_enter Try.func85, Try.ntmps85
    go_wp2
    go_ret
    exact ⟨ret_bool hf.out.symm, (Below.refl _ _).alloc (Nat.le_refl _) _⟩
  | false =>
    cases q0 : (i == 0) with
    | true =>
      have hf : Hid (fitsB c i = true) := by unfold Hid fitsB; rw [q0, Bool.true_or, Bool.or_true]
      go_enter Try.func85, Try.ntmps85
      go_wp2
      go_ret
      exact ⟨ret_bool hf.out.symm, (Below.refl _ _).alloc (Nat.le_refl _) _⟩
    | false =>
      have hf : Hid (fitsB c i = (c.idx == i)) := by unfold Hid fitsB; rw [q0, q1, Bool.false_or, Bool.false_or]
      go_enter Try.func85, Try.ntmps85
      go_wp2
      go_ret
      exact ⟨ret_bool hf.out.symm, (Below.refl _ _).alloc (Nat.le_refl _) _⟩
set_option maxRecDepth 100000 in
set_option maxHeartbeats 1600000 in
theorem spec_l1Ctors (xs : List Dt) (t : Ty) (w : World) (v : Value) (F : List Nat) (hx : Arr w (DtR w) xs v F) (hf : Under w.heap.size F) (hw : WorldOK xs) (ht : InWorld xs.length t) :
    Calls Try.prog 57 #[v, .agg #[.int .i64 t.d, .int .i64 t.i]] w (MadeNats w (ctorsL xs t)) := by
  obtain ⟨A, cap, rfl, hc1, hc2⟩ := hx.form
  have HX := Lib.hid hx
  have HF := Lib.hid hf
  clear hx hf
  rcases ht with hd | ⟨d, hd, hdl⟩
  · have hf := Lib.hid (ctorsL_int (xs := xs) hd)
    have t0 : (t.d == -1) = true := by simp [hd]
    clear hd
    go_enter Try.func57, Try.ntmps57
    go_wp2
    go_ret
    rw [hf.out]
    exact ⟨_, [], rfl, ((Below.refl _ _).alloc (Nat.le_refl _) _).alloc (by simp) _, ⟨_, _, rfl, by simp, by simp [maxLen], .inl ⟨rfl, rfl⟩⟩, Free.nil _, Fresh.nil _ _⟩
  · obtain ⟨t1, t2⟩ := t
    simp only at hd
    subst hd
    have hf := Lib.hid (ctorsL_data (i := t2) hdl)
    have t0 : ((d : Int) == -1) = false := by rw [beq_eq_false_iff_ne]; omega
    obtain ⟨i0, hi, hz0, hz1, hz2⟩ := info_parts info_int
    have HI := Lib.hid hi
    have HZ0 := Lib.hid hz0
    have HZ1 := Lib.hid hz1
    have HZ2 := Lib.hid hz2
    clear hi hz0 hz1 hz2
    obtain ⟨b, off, rfl⟩ := HX.out.ptr (by omega)
    have hB0 : Below w.heap.size w ((w.alloc (.cells #[.int .i64 (d : Int), .int .i64 t2] 33)).alloc (.cells #[] 3)) := ((Below.refl _ _).alloc (Nat.le_refl _) _).alloc (by simp) _
    have KT0 : Hid (Blk ((w.alloc (.cells #[.int .i64 (d : Int), .int .i64 t2] 33)).alloc (.cells #[] 3)) w.heap.size 33 #[.int .i64 (d : Int), .int .i64 t2]) := (Blk.new _ _ _).same (Below.heap_alloc _ _ _ (by simp))
    have HO0 : Hid (Own ((w.alloc (.cells #[.int .i64 (d : Int), .int .i64 t2] 33)).alloc (.cells #[] 3)) (w.heap.size + 1) 3 1 NatR ([] : List Int) (.slice (some ⟨w.heap.size + 1, 0, none⟩) 0 0) []) := by
      have h := Own.made (w.alloc (.cells #[.int .i64 (d : Int), .int .i64 t2] 33)) (w.heap.size + 1) 3 1 NatR #[] 0 (by simp) (by simp [maxLen]) rfl
      rwa [World.size_alloc] at h
    have g1 : (0 : Int) ≤ (d : Int) := by omega
    have g2 : (d : Int) < (xs.length : Int) := by omega
    have HL := Lib.hid (hw.at hdl).hi
    go_enter Try.func57, Try.ntmps57
    go_wp2
    go_loopw [5, 6] (fun ov iv wr => ∃ k : Nat, k ≤ xs[d].ctors.length ∧ iv = .int .i64 k ∧ Hid (Own wr (w.heap.size + 1) 3 1 NatR (fitTo xs[d].ctors t2 k) ov []) ∧ Below w.heap.size w wr ∧ Hid (Blk wr w.heap.size 33 #[.int .i64 (d : Int), .int .i64 t2])) (fun _ iv _ => xs[d].ctors.length - (intOf iv).toNat)
    case atStart => exact ⟨0, Nat.zero_le _, rfl, HO0, hB0, KT0⟩
    case round =>
      clear hB0 KT0 HO0
      obtain ⟨k, hk, rfl, HO, hB, KT⟩ := hrel
      obtain ⟨A1, cap1, G1, hb, c0, c1, HK, HG, hs, hn1, hn2⟩ := ArrDt.at HX.out HF.out hB d hdl
      clear c0 hs
      have y0 : wr.cell? ⟨w.heap.size, 0, none⟩ = some (.int .i64 (d : Int)) := (KT.out.cell 0).trans (by simp)
      have y1 : wr.cell? ⟨w.heap.size, 1, none⟩ = some (.int .i64 t2) := (KT.out.cell 1).trans (by simp)
      have hy1 := KT.out.lt
      by_cases hkl : k < xs[d].ctors.length
      · obtain ⟨b2, off2, rfl⟩ := HK.out.ptr (by omega)
        obtain ⟨A3, cap3, G3, hb3, k0, k1, k2, HC, HG3, -, -, -⟩ := ArrKt.rep HK.out HG.out hB k hkl
        have g3 : (0 : Int) ≤ (k : Int) := by omega
        have g4 : (k : Int) < (xs[d].ctors.length : Int) := by omega
        go_wp2_with fail
        have hkeep : ∀ U U' : World, (U.cell? ⟨w.heap.size, 0, none⟩ = some (.int .i64 (d : Int)) ∧ U.cell? ⟨w.heap.size, 1, none⟩ = some (.int .i64 t2) ∧ U.cell? ⟨b, off + d * 2 + 1, none⟩ = some (.slice (some ⟨b2, off2, none⟩) xs[d].ctors.length cap1) ∧ U.cell? ⟨b2, off2 + k * 3, none⟩ = some (.string xs[d].ctors[k].name) ∧ U.cell? ⟨b2, off2 + k * 3 + 1, none⟩ = some (.slice A3 xs[d].ctors[k].args.length cap3) ∧ U.cell? ⟨b2, off2 + k * 3 + 2, none⟩ = some (.int .i64 xs[d].ctors[k].idx)) → Below U.heap.size U U' → wr.heap.size ≤ U.heap.size → (U'.cell? ⟨w.heap.size, 0, none⟩ = some (.int .i64 (d : Int)) ∧ U'.cell? ⟨w.heap.size, 1, none⟩ = some (.int .i64 t2) ∧ U'.cell? ⟨b, off + d * 2 + 1, none⟩ = some (.slice (some ⟨b2, off2, none⟩) xs[d].ctors.length cap1) ∧ U'.cell? ⟨b2, off2 + k * 3, none⟩ = some (.string xs[d].ctors[k].name) ∧ U'.cell? ⟨b2, off2 + k * 3 + 1, none⟩ = some (.slice A3 xs[d].ctors[k].args.length cap3) ∧ U'.cell? ⟨b2, off2 + k * 3 + 2, none⟩ = some (.int .i64 xs[d].ctors[k].idx)) := fun U U' h hUU hU => ⟨(hUU.cell (Nat.lt_of_lt_of_le (KT.out.lt) hU)).trans h.1, (hUU.cell (Nat.lt_of_lt_of_le (KT.out.lt) hU)).trans h.2.1, (hUU.cell (Nat.lt_of_lt_of_le (hb) hU)).trans h.2.2.1, (hUU.cell (Nat.lt_of_lt_of_le (hb3) hU)).trans h.2.2.2.1, (hUU.cell (Nat.lt_of_lt_of_le (hb3) hU)).trans h.2.2.2.2.1, (hUU.cell (Nat.lt_of_lt_of_le (hb3) hU)).trans h.2.2.2.2.2⟩
        have HKeep := Lib.hid hkeep
        clear hkeep
        go_region_held3 (fun w' => w'.cell? ⟨w.heap.size, 0, none⟩ = some (.int .i64 (d : Int)) ∧ w'.cell? ⟨w.heap.size, 1, none⟩ = some (.int .i64 t2) ∧ w'.cell? ⟨b, off + d * 2 + 1, none⟩ = some (.slice (some ⟨b2, off2, none⟩) xs[d].ctors.length cap1) ∧ w'.cell? ⟨b2, off2 + k * 3, none⟩ = some (.string xs[d].ctors[k].name) ∧ w'.cell? ⟨b2, off2 + k * 3 + 1, none⟩ = some (.slice A3 xs[d].ctors[k].args.length cap3) ∧ w'.cell? ⟨b2, off2 + k * 3 + 2, none⟩ = some (.int .i64 xs[d].ctors[k].idx)) (first | assumption | (exact ⟨y0, y1, c1, k0, k1, k2⟩) | (exact HKeep.out wr.drew w' ⟨y0, y1, c1, k0, k1, k2⟩ hB' (Nat.le_refl _))) (first | (go_at_call 85; ((with_reducible refine (spec_l1Fits xs[d].ctors[k] t2 _ _ _ _).mono ?_); rintro e w' ⟨rfl, hB'⟩)))
        have hB1 := hB.drew.trans (hB'.mono hB.size)
        have HO1 : Hid (Own w' (w.heap.size + 1) 3 1 NatR (fitTo xs[d].ctors t2 k) u5 []) := Own.below (fun x cs G hk h => NatR_mono _ _ x cs G hk h) (w := wr) HO.out (below_undrew hB')
        have KT1 : Hid (Blk w' w.heap.size 33 #[.int .i64 (d : Int), .int .i64 t2]) := KT.out.same (hB'.block _ KT.out.lt)
        have hsz1 : wr.heap.size ≤ w'.heap.size := hB'.size
        have hz1' : w.heap.size + 1 ≤ wr.heap.size := KT.out.lt
        clear HKeep
        cases e1 : fitsB xs[d].ctors[k] t2 with
        | false =>
          have HF2 := Lib.hid (fitTo_no hkl e1)
          clear e1
          go_wp2
          go_roundw
          case rel => exact ⟨k + 1, by omega, by go_num, (by rw [HF2.out]; exact HO1.out), hB1, KT1⟩
          case measure => (simp [intOf] <;> omega)
        | true =>
          have HF2 := Lib.hid (fitTo_yes hkl e1)
          clear e1
          have hlen := fitTo_len xs[d].ctors t2 k
          go_wp2_with (at_builtin; refine Halt.mk ?_)
          refine Halt.of (wpList_push1 (P := Try.prog) rfl _ _ 36 rfl i0 _ 8 Try.underlying36 HI.out HZ0.out HZ1.out HZ2.out rfl Nat.zero_lt_one NatR_len NatR_mono (by rfl) HO1.out (k : Int) 3 [.int .i64 (k : Int)] [] _ (by rfl) (by simp) (by simp [Value.oneCell']) ⟨rfl, rfl⟩ (Under.nil _) (fun _ _ h => by cases h) (by have := HL.out; unfold maxLen; omega) (by have := HL.out; omega) (Nat.le_trans hz1' hsz1) ?_)
          intro g cp w3 hown3 hgr3 hat3
          have hrow := HO1.out.row
          have hB3 : Below w.heap.size w w3 := (hB1.alloc hB1.size _).grown hgr3 (by have := hB1.size; simp; omega) (fun g hg => by have := hrow g (mem_rowOf.2 hg); omega)
          have HO3 := Lib.hid hown3
          have KT3 : Hid (Blk w3 w.heap.size 33 #[.int .i64 (d : Int), .int .i64 t2]) := (KT1.out.same (Below.heap_alloc _ _ _ KT1.out.lt)).same (hgr3.block _ (by have := KT1.out.lt; simp; omega) (fun e => by have := hrow _ (mem_rowOf.2 e.symm); omega))
          have hsz3 := hgr3.size
          clear hown3 hgr3 hat3 hrow hlen
          go_wp2
          go_roundw
          case rel => exact ⟨k + 1, by omega, by go_num, (by rw [HF2.out]; exact HO3.out), hB3, KT3⟩
          case measure => (simp [intOf] <;> omega)
      · have hfin : MadeNats w (ctorsL xs ⟨(d : Int), t2⟩) (.returned u5) wr := by
          rw [hf.out]
          have h := HO.out
          rw [show k = xs[d].ctors.length by omega] at h
          exact h.nats hB (by omega)
        have HFin := Lib.hid hfin
        clear hfin
        go_wp2
        go_ret
        exact HFin.out
set_option maxRecDepth 100000 in
set_option maxHeartbeats 1600000 in
theorem spec_CtorsOf (xs : List Dt) (t : Ty) (w : World) (v : Value) (F : List Nat) (hx : Arr w (DtR w) xs v F) (hf : Under w.heap.size F) :
    Calls Try.prog 21 #[v, .agg #[.int .i64 t.d, .int .i64 t.i]] w (MadeNats w (ctorsOfL xs t)) := by
  obtain ⟨A, cap, rfl, hc1, hc2⟩ := hx.form
  have HX := Lib.hid hx
  have HF := Lib.hid hf
  clear hx hf
  go_enter Try.func21, Try.ntmps21
  go_wp2_with fail
  obtain ⟨W2, hW2⟩ : ∃ W2, W2 = w.alloc (.cells #[.int .i64 t.d, .int .i64 t.i] 33) := ⟨_, rfl⟩
  have hB2 : Below w.heap.size w W2 := by rw [hW2]; exact (Below.refl _ _).alloc (Nat.le_refl _) _
  have k1 : Blk W2 w.heap.size 33 #[.int .i64 t.d, .int .i64 t.i] := by rw [hW2]; exact Blk.new _ _ _
  rw [← hW2]
  clear hW2
  refine (spec_TypeValid xs t W2 _ F (ArrDt.below HX.out hB2 HF.out) (HF.out.mono hB2.size)).mono ?_
  rintro e w' ⟨rfl, hB'⟩
  have hB3 := hB2.trans (hB'.mono hB2.size)
  have k2 := k1.same (hB'.block _ k1.lt)
  have x0 : w'.cell? ⟨w.heap.size, 0, none⟩ = some (.int .i64 t.d) := (k2.cell 0).trans (by simp)
  have x1 : w'.cell? ⟨w.heap.size, 1, none⟩ = some (.int .i64 t.i) := (k2.cell 1).trans (by simp)
  have hlt := k2.lt
  clear k1 k2
  cases h1 : typeValidB xs t with
  | false =>
    have hf : Hid (ctorsOfL xs t = []) := by unfold Hid ctorsOfL; rw [if_neg (by simp [h1])]
    clear h1
    go_wp2
    go_ret
    rw [hf.out]
    exact ⟨_, [], rfl, hB3.alloc hB3.size _, ⟨_, _, rfl, by simp, by simp [maxLen], .inl ⟨rfl, rfl⟩⟩, Free.nil _, Fresh.nil _ _⟩
  | true =>
    have hf : Hid (ctorsOfL xs t = ctorsL xs t) := by unfold Hid ctorsOfL; rw [if_pos h1]
    obtain ⟨hw, hto⟩ := typeValid_split h1
    have HW := Lib.hid hw
    have HT := Lib.hid (typeOkB_in hto)
    clear h1 hw hto
    go_wp2_with fail
    refine (spec_l1Ctors xs t w' _ F (ArrDt.below HX.out hB3 HF.out) (HF.out.mono hB3.size) HW.out HT.out).mono ?_
    rintro e w2 ⟨v2, F2, rfl, hB4, ha2, hfr2, hfs2⟩
    have hfin : MadeNats w (ctorsOfL xs t) (.returned v2) w2 := by
      rw [hf.out]
      exact ⟨v2, F2, rfl, hB3.trans (hB4.mono hB3.size), ha2, hfr2, fun b hb => ⟨Nat.le_trans hB3.size (hfs2 b hb).1, (hfs2 b hb).2⟩⟩
    have HFin := Lib.hid hfin
    clear hfin hB4 ha2 hfr2 hfs2
    go_wp2
    go_ret
    exact HFin.out
set_option maxRecDepth 100000 in
set_option maxHeartbeats 1600000 in
theorem impl_CtorsOf (xs : List Dt) (t : Ty) (w : World) (v : Value) (F : List Nat) (hx : Arr w (DtR w) xs v F) (hf : Under w.heap.size F) :
    Calls Try.prog 22 #[v, .agg #[.int .i64 t.d, .int .i64 t.i]] w (MadeNats w (ctorsOfL xs t)) := by
  obtain ⟨A, cap, rfl, hc1, hc2⟩ := hx.form
  have HX := Lib.hid hx
  have HF := Lib.hid hf
  clear hx hf
  go_enter Try.func22, Try.ntmps22
  go_wp2_with fail
  obtain ⟨W2, hW2⟩ : ∃ W2, W2 = w.alloc (.cells #[.int .i64 t.d, .int .i64 t.i] 33) := ⟨_, rfl⟩
  have hB2 : Below w.heap.size w W2 := by rw [hW2]; exact (Below.refl _ _).alloc (Nat.le_refl _) _
  have k1 : Blk W2 w.heap.size 33 #[.int .i64 t.d, .int .i64 t.i] := by rw [hW2]; exact Blk.new _ _ _
  rw [← hW2]
  clear hW2
  refine (impl_TypeValid xs t W2 _ F (ArrDt.below HX.out hB2 HF.out) (HF.out.mono hB2.size)).mono ?_
  rintro e w' ⟨rfl, hB'⟩
  have hB3 := hB2.trans (hB'.mono hB2.size)
  have k2 := k1.same (hB'.block _ k1.lt)
  have x0 : w'.cell? ⟨w.heap.size, 0, none⟩ = some (.int .i64 t.d) := (k2.cell 0).trans (by simp)
  have x1 : w'.cell? ⟨w.heap.size, 1, none⟩ = some (.int .i64 t.i) := (k2.cell 1).trans (by simp)
  have hlt := k2.lt
  clear k1 k2
  cases h1 : typeValidB xs t with
  | false =>
    have hf : Hid (ctorsOfL xs t = []) := by unfold Hid ctorsOfL; rw [if_neg (by simp [h1])]
    clear h1
    go_wp2
    go_ret
    rw [hf.out]
    exact ⟨_, [], rfl, hB3, Arr.nil, Free.nil _, Fresh.nil _ _⟩
  | true =>
    have hf : Hid (ctorsOfL xs t = ctorsL xs t) := by unfold Hid ctorsOfL; rw [if_pos h1]
    obtain ⟨hw, hto⟩ := typeValid_split h1
    have HW := Lib.hid hw
    have HT := Lib.hid (typeOkB_in hto)
    clear h1 hw hto
    go_wp2_with fail
    refine (impl_ctorsOf xs t w' _ F (ArrDt.below HX.out hB3 HF.out) (HF.out.mono hB3.size) HW.out HT.out).mono ?_
    rintro e w2 ⟨v2, F2, rfl, hB4, ha2, hfr2, hfs2⟩
    have hfin : MadeNats w (ctorsOfL xs t) (.returned v2) w2 := by
      rw [hf.out]
      exact ⟨v2, F2, rfl, hB3.trans (hB4.mono hB3.size), ha2, hfr2, fun b hb => ⟨Nat.le_trans hB3.size (hfs2 b hb).1, (hfs2 b hb).2⟩⟩
    have HFin := Lib.hid hfin
    clear hfin hB4 ha2 hfr2 hfs2
    go_wp2
    go_ret
    exact HFin.out
end Go.Proofs.Ytddjhneoacnkgaa

namespace Go.Proofs.Ytddjhneoacnkgaa
open Go.RowKit

theorem ArrNat.at {w0 w : World} {b off n cap : Nat} {F : List Nat} {xs : List Int} (h : Arr w0 (NatR w0) xs (.slice (some ⟨b, off, none⟩) n cap) F) (hF : Under w0.heap.size F) (hB : Below w0.heap.size w0 w) (i : Nat) (hi : i < xs.length) :
    b < w.heap.size ∧ w.cell? ⟨b, off + i, none⟩ = some (.int .i64 xs[i]) := by
  obtain ⟨b', off', cs, G, e, hb, hcs, hv, hG⟩ := h.get (NatR_len _) hi
  cases e
  have hbl := hF _ hb
  have hc := hcs.same (hB.block _ hbl)
  obtain ⟨rfl, -⟩ := hv
  have := hc 0 _ rfl
  rw [Nat.mul_one] at this
  exact ⟨Nat.lt_of_lt_of_le hbl hB.size, this⟩
theorem ArrNat.below {w w' : World} {B : Nat} {vs : List Int} {x : Value} {F : List Nat} (h : Arr w (NatR w) vs x F) (hb : Below B w w') (hF : Under B F) : Arr w' (NatR w') vs x F := h.mono (.of_below hb hF) fun v _ cs G hk h => NatR_mono _ _ v cs G hk h
theorem ArrNat.kept {w w' : World} {vs : List Int} {x : Value} {F : List Nat} (h : Arr w (NatR w) vs x F) (hF : Kept F w w') : Arr w' (NatR w') vs x F := h.mono hF fun v _ cs G hk h => NatR_mono _ _ v cs G hk h
theorem ArrNat.drew {w : World} {vs : List Int} {x : Value} {F : List Nat} (h : Arr w (NatR w) vs x F) : Arr w.drew (NatR w.drew) vs x F := ArrNat.kept (w := w) h (fun _ _ => rfl)

set_option maxRecDepth 100000 in
set_option maxHeartbeats 1600000 in
theorem eqIntS_any (xs : List Int) (w : World) (F F2 : List Nat) (x y : Value) (hx : Arr w (NatR w) xs x F) (hy : Arr w (NatR w) xs y F2) (hf : Under w.heap.size F) (hg : Under w.heap.size F2) :
    Calls Try.prog 23 #[x, y] w fun e w' => e = .returned (.bool true) ∧ Below w.heap.size w w' := by
  obtain ⟨A, cap, rfl, hc1, hc2⟩ := hx.form
  obtain ⟨A', cap', rfl, hc3, hc4⟩ := hy.form
  have HX := Lib.hid hx
  have HF := Lib.hid hf
  have HY := Lib.hid hy
  have HG := Lib.hid hg
  clear hx hf hy hg
  go_enter Try.func23, Try.ntmps23
  go_wp2
  go_loopw [5] (fun i wr => ∃ k : Nat, k ≤ xs.length ∧ i = .int .i64 k ∧ Below w.heap.size w wr) (fun i _ => xs.length - (intOf i).toNat)
  case atStart => exact ⟨0, Nat.zero_le _, rfl, Below.refl _ _⟩
  case round =>
    obtain ⟨k, hk, rfl, hB⟩ := hrel
    by_cases hlt : k < xs.length
    · have g1 : (0 : Int) ≤ (k : Int) := by omega
      have g2 : (k : Int) < (xs.length : Int) := by omega
      obtain ⟨b, off, rfl⟩ := HX.out.ptr (by omega)
      obtain ⟨b2, off2, rfl⟩ := HY.out.ptr (by omega)
      obtain ⟨hb, c0⟩ := ArrNat.at HX.out HF.out hB k hlt
      obtain ⟨hb2, d0⟩ := ArrNat.at HY.out HG.out hB k hlt
      have HBq := Lib.hid (fun n => below_drewN hB n)
      go_wp2_with fail
      go_quiet (fail)
      go_wp2
      go_roundw
      case rel => exact ⟨k + 1, by omega, by go_num, HBq.out _⟩
      case measure => (simp [intOf] <;> omega)
    · go_wp2
      go_ret
      exact ⟨rfl, hB⟩
end Go.Proofs.Ytddjhneoacnkgaa

namespace Go.Proofs.Ytddjhneoacnkgaa
open Go.RowKit

theorem CellsAt.nil (w : World) (b off : Nat) : CellsAt w b off [] := fun j u h => by simp at h
theorem CellsAt.cons {w : World} {b off : Nat} {a : Value} {cs : List Value} (h : w.cell? ⟨b, off, none⟩ = some a) (hc : CellsAt w b (off + 1) cs) : CellsAt w b off (a :: cs) := fun j u hj => by
  cases j with
  | zero => simp at hj; subst hj; exact h
  | succ j =>
    have := hc j u (by simpa using hj)
    rwa [show off + 1 + j = off + (j + 1) by omega] at this
theorem Kept.refl (F : List Nat) (w : World) : Kept F w w := fun _ _ => rfl
theorem Kept.set {F : List Nat} {w w' : World} {b j : Nat} {u : Value} (h : Kept F w w') (hb : b ∉ F) : Kept F w (w'.setCell ⟨b, j, none⟩ u) := fun c hc =>
  (Below.heap_setCell _ _ _ _ (fun e => hb (by rw [← show c = b from e]; exact hc))).trans (h c hc)
theorem Kept.step {F : List Nat} {w w' w'' : World} (h : Kept F w w') (hb : Below w'.heap.size w' w'') (hF : Under w'.heap.size F) : Kept F w w'' := fun c hc => (hb.block c (hF c hc)).trans (h c hc)

/-- w' differs from w in the blocks of F alone -/
structure Chg (F : List Nat) (w w' : World) : Prop where
  os : w'.os = w.os
  tape : w'.tape = w.tape
  output : w'.output = w.output
  size : w.heap.size ≤ w'.heap.size
  block : ∀ b, b < w.heap.size → b ∉ F → w'.heap[b]? = w.heap[b]?
theorem Chg.refl (F : List Nat) (w : World) : Chg F w w := ⟨rfl, rfl, rfl, Nat.le_refl _, fun _ _ _ => rfl⟩
theorem Chg.trans {F : List Nat} {a b c : World} (h : Chg F a b) (k : Chg F b c) : Chg F a c :=
  ⟨k.os.trans h.os, k.tape.trans h.tape, k.output.trans h.output, Nat.le_trans h.size k.size, fun i hi hF => (k.block i (Nat.lt_of_lt_of_le hi h.size) hF).trans (h.block i hi hF)⟩
theorem Chg.mono {F G : List Nat} {w w' : World} (h : Chg F w w') (hs : ∀ b ∈ F, b ∈ G) : Chg G w w' := ⟨h.os, h.tape, h.output, h.size, fun b hb hG => h.block b hb fun hf => hG (hs b hf)⟩
theorem Chg.of_below {F : List Nat} {w w' : World} (h : Below w.heap.size w w') : Chg F w w' := ⟨h.os, h.tape, h.output, h.size, fun b hb _ => h.block b hb⟩
theorem Chg.kept {F G : List Nat} {w w' : World} (h : Chg F w w') (hG : Under w.heap.size G) (hd : ∀ b ∈ G, b ∉ F) : Kept G w w' := fun b hb => h.block b (hG b hb) (hd b hb)
theorem Chg.below {F : List Nat} {w w' : World} {B : Nat} (h : Chg F w w') (hF : ∀ b ∈ F, B ≤ b) (hB : B ≤ w.heap.size) : Below B w w' :=
  ⟨h.os, h.tape, h.output, h.size, fun b hb => h.block b (Nat.lt_of_lt_of_le hb hB) fun hf => Nat.lt_irrefl _ (Nat.lt_of_lt_of_le hb (hF b hf))⟩

/-- beside the blocks of F, cells lo .. lo + n - 1 of block b may have changed -/
structure Upd (b lo n : Nat) (F : List Nat) (w w' : World) : Prop extends Chg (b :: F) w w' where
  cells : ∀ j, j < lo ∨ lo + n ≤ j → w'.cell? ⟨b, j, none⟩ = w.cell? ⟨b, j, none⟩
  froz : ∀ j, w'.frozen? ⟨b, j, none⟩ = w.frozen? ⟨b, j, none⟩
theorem Upd.refl (b lo n : Nat) (F : List Nat) (w : World) : Upd b lo n F w w := ⟨Chg.refl _ _, fun _ _ => rfl, fun _ => rfl⟩
theorem Upd.trans {b lo n : Nat} {F : List Nat} {x y z : World} (h : Upd b lo n F x y) (k : Upd b lo n F y z) : Upd b lo n F x z :=
  ⟨h.toChg.trans k.toChg, fun j hj => (k.cells j hj).trans (h.cells j hj), fun j => (k.froz j).trans (h.froz j)⟩
theorem Upd.set {b lo n : Nat} {F : List Nat} {x y : World} (h : Upd b lo n F x y) {j : Nat} (h1 : lo ≤ j) (h2 : j < lo + n) (u : Value) : Upd b lo n F x (y.setCell ⟨b, j, none⟩ u) :=
  h.trans ⟨⟨rfl, rfl, rfl, by simp [World.setCell], fun c _ hc => Below.heap_setCell _ _ _ _ (fun e => hc (by rw [e]; exact List.mem_cons_self))⟩,
    fun i hi => World.cell?_setCell_other _ _ _ _ (by intro e; injection e; omega), fun i => World.frozen?_setCell _ _ _ _⟩
theorem Upd.sub {b lo n : Nat} {F : List Nat} {x y z : World} (h : Upd b lo n F x y) (hc : Chg F y z) (hb : b ∉ F) (hlt : b < y.heap.size) : Upd b lo n F x z :=
  h.trans ⟨hc.mono fun c hc => List.mem_cons_of_mem _ hc, fun j _ => World.cell?_of_block (w := y) (a := ⟨b, j, none⟩) (hc.block b hlt hb), fun j => World.frozen?_of_block (w := y) (a := ⟨b, j, none⟩) (hc.block b hlt hb)⟩
theorem Upd.below {b lo n : Nat} {F : List Nat} {x y z : World} (h : Upd b lo n F x y) (hc : Below y.heap.size y z) (hlt : b < y.heap.size) : Upd b lo n F x z :=
  h.trans ⟨.of_below hc, fun j _ => hc.cell (p := ⟨b, j, none⟩) hlt, fun j => hc.frozen (p := ⟨b, j, none⟩) hlt⟩

theorem Flat.len_eq {α : Type} {R : α → List Value → List Nat → Prop} {k : Nat} (hk : ∀ x cs F, R x cs F → cs.length = k) {xs : List α} {c : List Value} {F : List Nat} (h : Flat R xs c F) : c.length = xs.length * k := h.length hk

section
variable {α : Type} {R : World → α → List Value → List Nat → Prop} {k : Nat}

/-- one element in view: what may be done to it -/
theorem Arr.focus (hRl : ∀ w x cs G, R w x cs G → cs.length = k) (hRm : ∀ w w' x cs G, Kept G w w' → R w x cs G → R w' x cs G) {w : World} {xs : List α} {v : Value} {F : List Nat}
    (h : Arr w (R w) xs v F) (hfr : Free w F) (hF : Under w.heap.size F) {i : Nat} (hi : i < xs.length) :
    ∃ b off c F1 F2 F3 cap, v = .slice (some ⟨b, off, none⟩) xs.length cap ∧ F = b :: (F1 ++ (F2 ++ F3)) ∧ CellsAt w b (off + i * k) c ∧ R w xs[i] c F2 ∧ Free w F2 ∧ b ∉ F2 ∧ b < w.heap.size ∧ (∀ j, w.frozen? ⟨b, j, none⟩ = false) ∧ Under w.heap.size F2 ∧
      ∀ w' y c', Upd b (off + i * k) k F2 w w' → CellsAt w' b (off + i * k) c' → R w' y c' F2 → Free w' F2 → Arr w' (R w') (xs.set i y) v F ∧ Free w' F ∧ Chg F w w' := by
  obtain ⟨A, cap, rfl, h1, h2, h3⟩ := h
  rcases h3 with ⟨rfl, -⟩ | ⟨b, off, cs, G, rfl, hc, hf, rfl⟩
  · simp at hi
  have hxs : xs = xs.take i ++ (xs[i] :: xs.drop (i + 1)) := by rw [← List.drop_eq_getElem_cons hi, List.take_append_drop]
  have hf' := hf
  rw [hxs] at hf'
  obtain ⟨c1, c23, F1, F23, rfl, rfl, g1, g23⟩ := Flat.split (xs.take i) hf'
  obtain ⟨c2, c3, F2, F3, rfl, rfl, g2, g3⟩ := g23
  have l1 : c1.length = i * k := by rw [g1.length (hRl w), List.length_take]; congr 1; omega
  have hc2 := hc.right
  rw [l1] at hc2
  have l2 := hRl _ _ _ _ g2
  have nd := List.nodup_cons.1 hfr.1
  have nd1 := List.nodup_append.1 nd.2
  have nd2 := List.nodup_append.1 nd1.2.1
  have hbF2 : b ∉ F2 := fun hb => nd.1 (List.mem_append.2 (.inr (List.mem_append.2 (.inl hb))))
  refine ⟨b, off, c2, F1, F2, F3, cap, rfl, rfl, hc2.left, g2, ⟨nd2.1, fun x hx j => hfr.2 x (by simp [hx]) j⟩, hbF2, hF b (by simp), fun j => hfr.2 b (by simp) j, fun x hx => hF x (by simp [hx]), ?_⟩
  intro w' y c' hu hc' hy hfr2
  have k1 : Kept F1 w w' := hu.toChg.kept (fun x hx => hF x (by simp [hx])) fun x hx hm => by
    rcases List.mem_cons.1 hm with rfl | hm
    · exact nd.1 (by simp [hx])
    · exact nd1.2.2 x hx x (by simp [hm]) rfl
  have k3 : Kept F3 w w' := hu.toChg.kept (fun x hx => hF x (by simp [hx])) fun x hx hm => by
    rcases List.mem_cons.1 hm with rfl | hm
    · exact nd.1 (by simp [hx])
    · exact nd2.2.2 x hm x hx rfl
  have lc' := hRl _ _ _ _ hy
  have hxs' : xs.set i y = xs.take i ++ (y :: xs.drop (i + 1)) := by rw [List.set_eq_take_append_cons_drop, if_pos hi]
  refine ⟨?_, ?_, ?_⟩
  · rw [hxs']
    refine ⟨_, cap, by rw [← hxs', List.length_set], by rw [← hxs', List.length_set]; exact h1, h2, .inr ⟨b, off, c1 ++ (c' ++ c3), F1 ++ (F2 ++ F3), rfl, ?_, ?_, rfl⟩⟩
    · refine CellsAt.append (fun j u hj => ?_) (CellsAt.append ?_ (fun j u hj => ?_))
      · have hjl := (List.getElem?_eq_some_iff.1 hj).1
        rw [hu.cells _ (.inl (by omega))]
        exact hc.left j u hj
      · rw [l1]; exact hc'
      · rw [l1, hu.cells _ (.inr (by omega))]
        have := hc2.right j u hj
        rw [l2] at this
        rwa [lc']
    · exact (g1.mono fun x _ cs H hH hr => hRm _ _ x cs H (fun z hz => k1 z (hH z hz)) hr).append ⟨c', c3, F2, F3, rfl, rfl, hy, g3.mono fun x _ cs H hH hr => hRm _ _ x cs H (fun z hz => k3 z (hH z hz)) hr⟩
  · refine ⟨hfr.1, fun x hx j => ?_⟩
    rcases List.mem_cons.1 hx with rfl | hx
    · rw [hu.froz j]; exact hfr.2 x (by simp) j
    · rcases List.mem_append.1 hx with hx | hx
      · rw [World.frozen?_of_block (w := w) (a := ⟨x, j, none⟩) (k1 x hx)]; exact hfr.2 x (by simp [hx]) j
      · rcases List.mem_append.1 hx with hx | hx
        · exact hfr2.2 x hx j
        · rw [World.frozen?_of_block (w := w) (a := ⟨x, j, none⟩) (k3 x hx)]; exact hfr.2 x (by simp [hx]) j
  · exact hu.toChg.mono fun x hx => by
      rcases List.mem_cons.1 hx with rfl | hx <;> simp [*]
end

/-! ### What marking makes of a list -/
def mkS {α : Type} (mk : Int → α → α) (cnt : α → Nat) : Int → List α → List α
  | _, [] => []
  | k, x :: xs => mk k x :: mkS mk cnt (k + cnt x) xs
section
variable {α : Type} {mk : Int → α → α} {cnt : α → Nat}
theorem mkS_length : ∀ (xs : List α) (k : Int), (mkS mk cnt k xs).length = xs.length
  | [], _ => rfl
  | x :: xs, k => by rw [mkS, List.length_cons, mkS_length xs, List.length_cons]
theorem mkS_snoc : ∀ (xs : List α) (k : Int) (x : α), mkS mk cnt k (xs ++ [x]) = mkS mk cnt k xs ++ [mk (k + sumBy cnt xs) x]
  | [], k, x => by simp [mkS, sumBy]
  | y :: xs, k, x => by
    simp only [List.cons_append, mkS, mkS_snoc xs, sumBy]
    congr 4; omega
theorem mkS_get {xs : List α} {k : Int} {i : Nat} (hi : i < xs.length) : (mkS mk cnt k xs)[i]? = some (mk (k + sumBy cnt (xs.take i)) xs[i]) := by
  have h : ∀ (xs : List α) (k : Int) (i : Nat) (hi : i < xs.length), (mkS mk cnt k xs)[i]? = some (mk (k + sumBy cnt (xs.take i)) xs[i]) := by
    intro xs
    induction xs with
    | nil => intro k i hi; simp at hi
    | cons x xs ih =>
      intro k i hi
      cases i with
      | zero => simp [mkS, sumBy]
      | succ i =>
        simp only [mkS, List.getElem?_cons_succ, List.take_succ_cons, sumBy, List.getElem_cons_succ]
        rw [ih (k + cnt x) i (by simpa using hi)]
        congr 2; omega
  exact h xs k i hi
/-- the first i elements are marked already -/
def mkTo (mk : Int → α → α) (cnt : α → Nat) (k : Int) (xs : List α) (i : Nat) : List α := mkS mk cnt k (xs.take i) ++ xs.drop i
theorem mkTo_length (k : Int) (xs : List α) (i : Nat) : (mkTo mk cnt k xs i).length = xs.length := by unfold mkTo; rw [List.length_append, mkS_length, ← List.length_append, List.take_append_drop]
theorem mkTo_zero (k : Int) (xs : List α) : mkTo mk cnt k xs 0 = xs := rfl
theorem mkTo_all (k : Int) (xs : List α) {i : Nat} (h : xs.length ≤ i) : mkTo mk cnt k xs i = mkS mk cnt k xs := by unfold mkTo; rw [List.take_of_length_le h, List.drop_of_length_le h, List.append_nil]
theorem mkTo_get {k : Int} {xs : List α} {i : Nat} (hi : i < xs.length) : (mkTo mk cnt k xs i)[i]'(by rw [mkTo_length]; exact hi) = xs[i] := by
  unfold mkTo
  rw [List.getElem_append_right (by rw [mkS_length, List.length_take]; omega)]
  simp only [mkS_length, List.length_take, Nat.min_eq_left (Nat.le_of_lt hi), Nat.sub_self, List.getElem_drop, Nat.add_zero]
theorem mkTo_step {k : Int} {xs : List α} {i : Nat} (hi : i < xs.length) : (mkTo mk cnt k xs i).set i (mk (k + sumBy cnt (xs.take i)) xs[i]) = mkTo mk cnt k xs (i + 1) := by
  unfold mkTo
  rw [take_snoc' xs i hi, mkS_snoc, List.set_append_right _ _ (by rw [mkS_length, List.length_take]; omega), mkS_length, List.length_take, Nat.min_eq_left (Nat.le_of_lt hi), Nat.sub_self, List.drop_eq_getElem_cons hi, List.set_cons_zero, List.append_assoc]
  rfl
theorem sumBy_step (f : α → Nat) {xs : List α} {i : Nat} (hi : i < xs.length) (k : Int) : k + sumBy f (xs.take (i + 1)) = k + sumBy f (xs.take i) + f xs[i] := by rw [sumBy_take_succ f xs i hi]; omega
end
end Go.Proofs.Ytddjhneoacnkgaa

namespace Go.Proofs.Ytddjhneoacnkgaa
open Go.RowKit

/-- the decimal digits of a number, none for 0 -/
def digs (n : Nat) : List UInt8 := if h : n = 0 then [] else digs (n / 10) ++ [UInt8.ofNat (48 + n % 10)]
termination_by n
decreasing_by omega
def mtext (k : Int) : ByteArray := if k ≤ 0 then ⟨#[109, 48]⟩ else ⟨(109 :: digs k.toNat).toArray⟩
theorem digs_zero : digs 0 = [] := by rw [digs]; rfl
theorem digs_pos (n : Nat) (h : 0 < n) : digs n = digs (n / 10) ++ [UInt8.ofNat (48 + n % 10)] := by rw [digs, dif_neg (by omega)]
theorem digs_len (n : Nat) : (digs n).length ≤ n := by
  induction n using Nat.strongRecOn with
  | ind n ih =>
    rcases Nat.eq_zero_or_pos n with rfl | h
    · rw [digs_zero]; exact Nat.le_refl _
    · rw [digs_pos n h, List.length_append, List.length_singleton]
      have := ih (n / 10) (by omega)
      omega
theorem mtext_le (k : Int) (h0 : 0 ≤ k) (h : k ≤ 1099511627776) : (mtext k).size ≤ 9223372036854775807 := by
  unfold mtext
  split
  · decide
  · have := digs_len k.toNat
    show (109 :: digs k.toNat).toArray.size ≤ _
    rw [List.size_toArray, List.length_cons]
    omega

theorem conv1 (w : World) (x : Int) : (convert 99 9 (.slice (some ⟨w.heap.size, 0, none⟩) 1 1)).run Try.prog (w.alloc (.cells #[.int .u8 x] 5)) = .ok (.string (strOfNums [x])) (w.alloc (.cells #[.int .u8 x] 5)) :=
  run_convert_bytes_arg _ 99 5 Try.underlying99 Try.underlying5 w.heap.size 0 1 1 [x] rfl (fun i hi => by
    obtain rfl : i = 0 := by omega
    exact ((Blk.new w 5 #[.int .u8 x]).cell 0).trans (by simp)) 9 Try.underlying9
theorem data_append (a b : ByteArray) : (a ++ b).data.toList = a.data.toList ++ b.data.toList := by rw [ByteArray.data_append, Array.toList_append]
theorem size_append (a b : ByteArray) : (a ++ b).size = a.size + b.size := by show (a ++ b).data.size = _; rw [ByteArray.data_append, Array.size_append]; rfl
theorem bytes_ext {a b : ByteArray} (h : a.data.toList = b.data.toList) : a = b := by
  cases a; cases b
  simp at h
  rw [h]
set_option maxRecDepth 100000 in
set_option maxHeartbeats 1600000 in
theorem markText_any (k : Int) (w : World) (h0 : 0 ≤ k) (hk : k ≤ 1099511627776) : Calls Try.prog 59 #[.int .i64 k] w fun e w' => e = .returned (.string (mtext k)) ∧ Below w.heap.size w w' := by
  by_cases hz : k ≤ 0
  · have hf : Hid (mtext k = ⟨#[109, 48]⟩) := by unfold Hid mtext; rw [if_pos hz]
    go_enter Try.func59, Try.ntmps59
    go_wp2
    go_ret
    exact ⟨by rw [hf.out]; rfl, Below.refl _ _⟩
  · obtain ⟨n0, rfl⟩ := Int.eq_ofNat_of_zero_le h0
    have hf : Hid (mtext (n0 : Int) = ⟨(109 :: digs n0).toArray⟩) := by unfold Hid mtext; rw [if_neg hz]; rfl
    have hkn : n0 ≤ 1099511627776 := by omega
    go_enter Try.func59, Try.ntmps59
    go_wp2
    go_loopw [0, 3] (fun kv ov wr => ∃ n : Nat, ∃ out : ByteArray, kv = .int .i64 n ∧ ov = .string out ∧ n ≤ 1099511627776 ∧ Hid (digs n0 = digs n ++ out.data.toList) ∧ out.size + n ≤ n0 ∧ Below w.heap.size w wr) (fun kv _ _ => (intOf kv).toNat)
    case atStart => exact ⟨n0, ⟨#[]⟩, rfl, rfl, hkn, (show digs n0 = digs n0 ++ [] from (List.append_nil _).symm), (by show 0 + n0 ≤ n0; omega), Below.refl _ _⟩
    case round =>
      obtain ⟨n, out, rfl, rfl, hn, HD, hsz, hB⟩ := hrel
      by_cases hlt : 0 < n
      · have g1 : (0 : Int) ≤ (n : Int) := by omega
        have g2 : (0 : Int) < (n : Int) := by omega
        have hcv := conv1 wr (48 + (n : Int) % 10)
        have hdg := digs_pos n hlt
        have HD2 : Hid (digs n0 = digs (n / 10) ++ (strOfNums [48 + (n : Int) % 10] ++ out).data.toList) := by
          unfold Hid
          rw [HD.out, hdg, data_append, strOfNums_data, List.append_assoc]
          congr 3
          all_goals (simp only [List.map_cons, List.map_nil]; try (congr 2; omega))
        have hs2 : (strOfNums [48 + (n : Int) % 10] ++ out).size + n / 10 ≤ n0 := by rw [size_append, strOfNums_size]; simp only [List.length_singleton]; omega
        have HS2 := Lib.hid hs2
        have hcat : (strOfNums [48 + (n : Int) % 10]).size + out.size ≤ 9223372036854775807 := by rw [strOfNums_size]; simp only [List.length_singleton]; omega
        clear hs2 hdg
        go_wp2
        go_roundw
        case rel => exact ⟨n / 10, _, (by go_num), rfl, by omega, HD2, HS2.out, hB.alloc hB.size _⟩
        case measure => (simp [intOf] <;> omega)
      · obtain rfl : n = 0 := by omega
        have hfin : mtext (n0 : Int) = ⟨#[109]⟩ ++ out := by
          rw [hf.out]
          refine bytes_ext ?_
          rw [data_append]
          have h := HD.out
          rw [digs_zero, List.nil_append] at h
          rw [← h]
          simp
        have HFin := Lib.hid hfin
        clear hfin
        go_wp2
        go_ret
        exact ⟨by rw [HFin.out]; rfl, hB⟩
end Go.Proofs.Ytddjhneoacnkgaa

namespace Go.Proofs.Ytddjhneoacnkgaa
open Go.RowKit

def cntTy (x : Ty) : Nat := 2
def mkTy (k : Int) (x : Ty) : Ty := ⟨k, k + 1⟩
theorem cntTy_def (x : Ty) : cntTy x = 2 := rfl

set_option maxRecDepth 100000 in
set_option maxHeartbeats 1600000 in
theorem markTypeS_any (xs : List Ty) (w : World) (v : Value) (F : List Nat) (k0 : Int) (h0 : 0 ≤ k0) (hk : k0 + (sumBy cntTy xs : Nat) ≤ 1099511627776) (hx : Arr w (TyR w) xs v F) (hfr : Free w F) (hf : Under w.heap.size F) :
    Calls Try.prog 34 #[v, .int .i64 k0] w fun e w' => e = .returned (.int .i64 (k0 + (sumBy cntTy xs : Nat))) ∧ Chg F w w' ∧ Arr w' (TyR w') (mkS mkTy cntTy k0 xs) v F ∧ Free w' F := by
  have HX := Lib.hid (And.intro hx (And.intro hfr (Chg.refl F w)))
  obtain ⟨A, cap, rfl, hc1, hc2⟩ := hx.form
  have HF := Lib.hid hf
  have HK := Lib.hid hk

  clear hx hfr hf hk
  go_enter Try.func34, Try.ntmps34
  go_wp2
  go_loopw [1, 5] (fun kv iv wr => ∃ i : Nat, ∃ m : Int, i ≤ xs.length ∧ iv = .int .i64 i ∧ kv = .int .i64 m ∧ 0 ≤ m ∧ Hid (m = k0 + (sumBy cntTy (xs.take i) : Nat)) ∧ Hid (Arr wr (TyR wr) (mkTo mkTy cntTy k0 xs i) (.slice A xs.length cap) F ∧ Free wr F ∧ Chg F w wr)) (fun _ iv _ => xs.length - (intOf iv).toNat)
  case atStart => exact ⟨0, k0, Nat.zero_le _, rfl, rfl, h0, (by simp [Hid, sumBy]), HX⟩
  case round =>
    obtain ⟨i, m, hi, rfl, rfl, hm0, HM, HR⟩ := hrel
    by_cases hlt : i < xs.length
    · have g1 : (0 : Int) ≤ (i : Int) := by omega
      have g2 : (i : Int) < (xs.length : Int) := by omega
      obtain ⟨b, off, c, F1, F2, F3, cap', hv, hFe, hc, hr, hfr2, hnb, hbl, hfz, hu2, hclose⟩ := HR.out.1.focus (fun w => TyR_len (w := w)) (fun w w' x cs G hk h => TyR.mono (w := w) (w' := w') x cs G hk h) HR.out.2.1 (HF.out.mono HR.out.2.2.size) (i := i) (by rw [mkTo_length]; exact hlt)
      obtain rfl : A = some ⟨b, off, none⟩ := by injection hv
      rw [mkTo_get hlt] at hr

      have hsum : m + (cntTy xs[i] : Nat) ≤ 1099511627776 := by
        have h1 := HM.out
        have h2 := HK.out
        have h3 := sumBy_take_le cntTy xs (i + 1)
        rw [sumBy_take_succ cntTy xs i hlt] at h3
        omega
      have HCl := Lib.hid hclose
      have HHv := Lib.hid hv
      have HFe := Lib.hid hFe
      clear hclose hv hFe
      obtain ⟨rfl, rfl⟩ := hr
      have hcd := cntTy_def xs[i]
      rw [hcd] at hsum
      have x0 : wr.cell? ⟨b, off + i * 2, none⟩ = some (.int .i64 xs[i].d) := hc 0 _ rfl
      have x1 : wr.cell? ⟨b, off + i * 2 + 1, none⟩ = some (.int .i64 xs[i].i) := hc 1 _ rfl
      clear hc
      have HFr2 := Lib.hid hfr2
      have HU2 := Lib.hid hu2
      have HNB := Lib.hid hnb
      have HCD := Lib.hid hcd
      clear hfr2 hu2 hnb hcd
      have HFz := Lib.hid hfz
      clear hfz
      have U0 := Lib.hid (Upd.refl b (off + i * 2) 2 [] wr)
      have K0 := Lib.hid (Kept.refl [] wr)
      have z0 : wr.frozen? ⟨b, off + i * 2, none⟩ = false := (U0.out.froz _).trans (HFz.out _)
      have z1 : wr.frozen? ⟨b, off + i * 2 + 1, none⟩ = false := (U0.out.froz _).trans (HFz.out _)
      have X0 := Lib.hid x0
      have X1 := Lib.hid x1
      have U1 := Lib.hid (U0.out.set (j := off + i * 2) (by omega) (by omega) (.int .i64 (m)))
      have Y0 := Lib.hid (show (wr.setCell ⟨b, off + i * 2, none⟩ (.int .i64 (m))).cell? ⟨b, off + i * 2, none⟩ = some (.int .i64 (m)) from World.cell?_setCell_same _ _ _ X0.out)
      have Y1 := Lib.hid ((World.cell?_setCell_other _ ⟨b, off + i * 2, none⟩ ⟨b, off + i * 2 + 1, none⟩ (.int .i64 (m)) (by intro e; injection e; omega)).trans X1.out)
      clear X0 X1
      have X0 := Y0
      have X1 := Y1
      clear Y0 Y1
      have U2 := Lib.hid (U1.out.set (j := off + i * 2 + 1) (by omega) (by omega) (.int .i64 (m + 1)))
      have Y0 := Lib.hid ((World.cell?_setCell_other _ ⟨b, off + i * 2 + 1, none⟩ ⟨b, off + i * 2, none⟩ (.int .i64 (m + 1)) (by intro e; injection e; omega)).trans X0.out)
      have Y1 := Lib.hid (show ((wr.setCell ⟨b, off + i * 2, none⟩ (.int .i64 (m))).setCell ⟨b, off + i * 2 + 1, none⟩ (.int .i64 (m + 1))).cell? ⟨b, off + i * 2 + 1, none⟩ = some (.int .i64 (m + 1)) from World.cell?_setCell_same _ _ _ X1.out)
      clear X0 X1
      have X0 := Y0
      have X1 := Y1
      clear Y0 Y1
      have hfin := HCl.out ((wr.setCell ⟨b, off + i * 2, none⟩ (.int .i64 (m))).setCell ⟨b, off + i * 2 + 1, none⟩ (.int .i64 (m + 1))) (mkTy m xs[i]) _ U2.out (CellsAt.cons X0.out (CellsAt.cons X1.out (CellsAt.nil _ _ _))) (⟨rfl, rfl⟩) (Free.nil _)
      have hst : (mkTo mkTy cntTy k0 xs i).set i (mkTy m xs[i]) = mkTo mkTy cntTy k0 xs (i + 1) := by rw [HM.out]; exact mkTo_step hlt
      rw [hst] at hfin
      clear hst
      have HFin := Lib.hid (And.intro hfin.1 (And.intro hfin.2.1 (HR.out.2.2.trans hfin.2.2)))
      clear hfin
      have HM2 : Hid (m + 1 + 1 = k0 + (sumBy cntTy (xs.take (i + 1)) : Nat)) := by
        have h1 := HM.out
        have h2 := HCD.out
        unfold Hid
        rw [sumBy_take_succ cntTy xs i hlt]
        omega
      go_wp2
      go_roundw
      case rel => exact ⟨i + 1, m + 1 + 1, by omega, by go_num, rfl, by omega, HM2, HFin.out⟩
      case measure => (simp [intOf] <;> omega)
    · have HEnd : Hid (Chg F w wr ∧ Arr wr (TyR wr) (mkS mkTy cntTy k0 xs) (.slice A xs.length cap) F ∧ Free wr F) := by
        have h := HR.out
        rw [mkTo_all k0 xs (by omega)] at h
        exact ⟨h.2.2, h.1, h.2.1⟩
      have hf : Hid (m = k0 + (sumBy cntTy xs : Nat)) := by
        have h := HM.out
        rwa [List.take_of_length_le (by omega)] at h
      go_wp2
      go_ret
      exact ⟨ret_int hf.out, HEnd.out⟩
end Go.Proofs.Ytddjhneoacnkgaa

namespace Go.Proofs.Ytddjhneoacnkgaa
open Go.RowKit

def cntKt (x : Kt) : Nat := 2 + sumBy cntTy x.args
def mkKt (k : Int) (x : Kt) : Kt := ⟨mtext (k), mkS mkTy cntTy (k + 1) x.args, k + 1 + (sumBy cntTy x.args : Nat)⟩
theorem cntKt_def (x : Kt) : cntKt x = 2 + sumBy cntTy x.args := rfl

set_option maxRecDepth 100000 in
set_option maxHeartbeats 1600000 in
theorem markCtorS_any (xs : List Kt) (w : World) (v : Value) (F : List Nat) (k0 : Int) (h0 : 0 ≤ k0) (hk : k0 + (sumBy cntKt xs : Nat) ≤ 1099511627776) (hx : Arr w (KtR w) xs v F) (hfr : Free w F) (hf : Under w.heap.size F) :
    Calls Try.prog 60 #[v, .int .i64 k0] w fun e w' => e = .returned (.int .i64 (k0 + (sumBy cntKt xs : Nat))) ∧ Chg F w w' ∧ Arr w' (KtR w') (mkS mkKt cntKt k0 xs) v F ∧ Free w' F := by
  have HX := Lib.hid (And.intro hx (And.intro hfr (Chg.refl F w)))
  obtain ⟨A, cap, rfl, hc1, hc2⟩ := hx.form
  have HF := Lib.hid hf
  have HK := Lib.hid hk

  clear hx hfr hf hk
  go_enter Try.func60, Try.ntmps60
  go_wp2
  go_loopw [1, 5] (fun kv iv wr => ∃ i : Nat, ∃ m : Int, i ≤ xs.length ∧ iv = .int .i64 i ∧ kv = .int .i64 m ∧ 0 ≤ m ∧ Hid (m = k0 + (sumBy cntKt (xs.take i) : Nat)) ∧ Hid (Arr wr (KtR wr) (mkTo mkKt cntKt k0 xs i) (.slice A xs.length cap) F ∧ Free wr F ∧ Chg F w wr)) (fun _ iv _ => xs.length - (intOf iv).toNat)
  case atStart => exact ⟨0, k0, Nat.zero_le _, rfl, rfl, h0, (by simp [Hid, sumBy]), HX⟩
  case round =>
    obtain ⟨i, m, hi, rfl, rfl, hm0, HM, HR⟩ := hrel
    by_cases hlt : i < xs.length
    · have g1 : (0 : Int) ≤ (i : Int) := by omega
      have g2 : (i : Int) < (xs.length : Int) := by omega
      obtain ⟨b, off, c, F1, F2, F3, cap', hv, hFe, hc, hr, hfr2, hnb, hbl, hfz, hu2, hclose⟩ := HR.out.1.focus (fun w => KtR_len (w := w)) (fun w w' x cs G hk h => KtR.mono (w := w) (w' := w') x cs G hk h) HR.out.2.1 (HF.out.mono HR.out.2.2.size) (i := i) (by rw [mkTo_length]; exact hlt)
      obtain rfl : A = some ⟨b, off, none⟩ := by injection hv
      rw [mkTo_get hlt] at hr

      have hsum : m + (cntKt xs[i] : Nat) ≤ 1099511627776 := by
        have h1 := HM.out
        have h2 := HK.out
        have h3 := sumBy_take_le cntKt xs (i + 1)
        rw [sumBy_take_succ cntKt xs i hlt] at h3
        omega
      have HCl := Lib.hid hclose
      have HHv := Lib.hid hv
      have HFe := Lib.hid hFe
      clear hclose hv hFe
      obtain ⟨kv, rfl, ha, hs0⟩ := hr
      obtain ⟨A1, cap1, rfl, -, -⟩ := ha.form
      have hcd := cntKt_def xs[i]
      rw [hcd] at hsum
      have x0 : wr.cell? ⟨b, off + i * 3, none⟩ = some (.string xs[i].name) := hc 0 _ rfl
      have x1 : wr.cell? ⟨b, off + i * 3 + 1, none⟩ = some (.slice A1 xs[i].args.length cap1) := hc 1 _ rfl
      have x2 : wr.cell? ⟨b, off + i * 3 + 2, none⟩ = some (.int .i64 xs[i].idx) := hc 2 _ rfl
      clear hc
      have HA := Lib.hid ha
      have HFr2 := Lib.hid hfr2
      have HU2 := Lib.hid hu2
      have HNB := Lib.hid hnb
      clear ha hfr2 hu2 hnb
      have hsn : (0 : Int) ≤ (sumBy cntTy xs[i].args : Nat) := by omega
      generalize hsg : sumBy cntTy xs[i].args = s at *
      have HSG := Lib.hid hsg
      have HCD := Lib.hid hcd
      clear hsg hcd
      have HFz := Lib.hid hfz
      clear hfz
      have U0 := Lib.hid (Upd.refl b (off + i * 3) 3 F2 wr)
      have K0 := Lib.hid (Kept.refl F2 wr)
      have z0 : wr.frozen? ⟨b, off + i * 3, none⟩ = false := (U0.out.froz _).trans (HFz.out _)
      have z2 : wr.frozen? ⟨b, off + i * 3 + 2, none⟩ = false := (U0.out.froz _).trans (HFz.out _)
      go_wp2_with fail
      refine (markText_any (m) _ (by omega) (by omega)).mono ?_
      rintro e v1 ⟨rfl, hb1⟩
      have hlE1 : b < wr.heap.size := Nat.lt_of_lt_of_le hbl U0.out.size
      have U1 := Lib.hid (U0.out.below hb1 hlE1)
      have K1 := Lib.hid (K0.out.step hb1 (HU2.out.mono U0.out.size))
      have y0 := (hb1.cell (p := ⟨b, off + i * 3, none⟩) hlE1).trans x0
      have y1 := (hb1.cell (p := ⟨b, off + i * 3 + 1, none⟩) hlE1).trans x1
      have y2 := (hb1.cell (p := ⟨b, off + i * 3 + 2, none⟩) hlE1).trans x2
      clear x0 x1 x2 z0 z2
      have x0 := y0
      have x1 := y1
      have x2 := y2
      clear y0 y1 y2
      have hb11 : b < v1.heap.size := Nat.lt_of_lt_of_le hbl U1.out.size
      have z0 : v1.frozen? ⟨b, off + i * 3, none⟩ = false := (U1.out.froz _).trans (HFz.out _)
      have z2 : v1.frozen? ⟨b, off + i * 3 + 2, none⟩ = false := (U1.out.froz _).trans (HFz.out _)
      clear hb1 hlE1
      go_wp2_with fail
      have U2 := Lib.hid (U1.out.set (j := off + i * 3) (by omega) (by omega) (.string (mtext (m))))
      have K2 := Lib.hid (K1.out.set (b := b) (j := off + i * 3) (u := .string (mtext (m))) HNB.out)
      have y0 : (v1.setCell ⟨b, off + i * 3, none⟩ (.string (mtext (m)))).cell? ⟨b, off + i * 3, none⟩ = some (.string (mtext (m))) := World.cell?_setCell_same _ _ _ x0
      have y1 := (World.cell?_setCell_other _ ⟨b, off + i * 3, none⟩ ⟨b, off + i * 3 + 1, none⟩ (.string (mtext (m))) (by intro e; injection e; omega)).trans x1
      have y2 := (World.cell?_setCell_other _ ⟨b, off + i * 3, none⟩ ⟨b, off + i * 3 + 2, none⟩ (.string (mtext (m))) (by intro e; injection e; omega)).trans x2
      clear x0 x1 x2
      have x0 := y0
      have x1 := y1
      have x2 := y2
      clear y0 y1 y2
      refine (markTypeS_any xs[i].args _ _ F2 (m + 1) (by omega) (by rw [HSG.out]; omega) (HA.out.mono K2.out (fun x _ cs G hk h => (fun w w' x cs G hk h => TyR.mono (w := w) (w' := w') x cs G hk h) _ _ x cs G hk h)) (HFr2.out.kept K2.out) (HU2.out.mono U2.out.size)).mono ?_
      rintro e v2 ⟨rfl, hg2, hm2, hfr2⟩
      have hlE2 : b < (v1.setCell ⟨b, off + i * 3, none⟩ (.string (mtext (m)))).heap.size := Nat.lt_of_lt_of_le hbl U2.out.size
      have U3 := Lib.hid (U2.out.sub hg2 HNB.out hlE2)
      have y0 := (World.cell?_of_block (w := (v1.setCell ⟨b, off + i * 3, none⟩ (.string (mtext (m))))) (a := ⟨b, off + i * 3, none⟩) (hg2.block b hlE2 HNB.out)).trans x0
      have y1 := (World.cell?_of_block (w := (v1.setCell ⟨b, off + i * 3, none⟩ (.string (mtext (m))))) (a := ⟨b, off + i * 3 + 1, none⟩) (hg2.block b hlE2 HNB.out)).trans x1
      have y2 := (World.cell?_of_block (w := (v1.setCell ⟨b, off + i * 3, none⟩ (.string (mtext (m))))) (a := ⟨b, off + i * 3 + 2, none⟩) (hg2.block b hlE2 HNB.out)).trans x2
      clear x0 x1 x2 z0 z2
      have x0 := y0
      have x1 := y1
      have x2 := y2
      clear y0 y1 y2
      have hb12 : b < v2.heap.size := Nat.lt_of_lt_of_le hbl U3.out.size
      have z0 : v2.frozen? ⟨b, off + i * 3, none⟩ = false := (U3.out.froz _).trans (HFz.out _)
      have z2 : v2.frozen? ⟨b, off + i * 3 + 2, none⟩ = false := (U3.out.froz _).trans (HFz.out _)
      have HMk := Lib.hid hm2
      have HFrk := Lib.hid hfr2
      have hgs2 := hg2.size
      clear hm2 hfr2 hg2 hlE2
      have K3 := Lib.hid (Kept.refl F2 v2)
      rw [HSG.out]
      have X0 := Lib.hid x0
      have X1 := Lib.hid x1
      have X2 := Lib.hid x2
      have U4 := Lib.hid (U3.out.set (j := off + i * 3 + 2) (by omega) (by omega) (.int .i64 (m + 1 + (s : Int))))
      have K4 := Lib.hid (K3.out.set (b := b) (j := off + i * 3 + 2) (u := .int .i64 (m + 1 + (s : Int))) HNB.out)
      have Y0 := Lib.hid ((World.cell?_setCell_other _ ⟨b, off + i * 3 + 2, none⟩ ⟨b, off + i * 3, none⟩ (.int .i64 (m + 1 + (s : Int))) (by intro e; injection e; omega)).trans X0.out)
      have Y1 := Lib.hid ((World.cell?_setCell_other _ ⟨b, off + i * 3 + 2, none⟩ ⟨b, off + i * 3 + 1, none⟩ (.int .i64 (m + 1 + (s : Int))) (by intro e; injection e; omega)).trans X1.out)
      have Y2 := Lib.hid (show (v2.setCell ⟨b, off + i * 3 + 2, none⟩ (.int .i64 (m + 1 + (s : Int)))).cell? ⟨b, off + i * 3 + 2, none⟩ = some (.int .i64 (m + 1 + (s : Int))) from World.cell?_setCell_same _ _ _ X2.out)
      clear X0 X1 X2
      have X0 := Y0
      have X1 := Y1
      have X2 := Y2
      clear Y0 Y1 Y2
      have hfin := HCl.out (v2.setCell ⟨b, off + i * 3 + 2, none⟩ (.int .i64 (m + 1 + (s : Int)))) (mkKt m xs[i]) _ U4.out (CellsAt.cons X0.out (CellsAt.cons X1.out (CellsAt.cons X2.out (CellsAt.nil _ _ _)))) (by obtain rfl := HSG.out; exact ⟨_, rfl, (HMk.out.mono K4.out (fun x _ cs G hk h => (fun w w' x cs G hk h => TyR.mono (w := w) (w' := w') x cs G hk h) _ _ x cs G hk h)), mtext_le _ (by omega) (by omega)⟩) (HFrk.out.kept K4.out)
      have hst : (mkTo mkKt cntKt k0 xs i).set i (mkKt m xs[i]) = mkTo mkKt cntKt k0 xs (i + 1) := by rw [HM.out]; exact mkTo_step hlt
      rw [hst] at hfin
      clear hst
      have HFin := Lib.hid (And.intro hfin.1 (And.intro hfin.2.1 (HR.out.2.2.trans hfin.2.2)))
      clear hfin
      have HM2 : Hid (m + 1 + (s : Int) + 1 = k0 + (sumBy cntKt (xs.take (i + 1)) : Nat)) := by
        have h1 := HM.out
        have h2 := HCD.out
        unfold Hid
        rw [sumBy_take_succ cntKt xs i hlt]
        omega
      go_wp2
      go_roundw
      case rel => exact ⟨i + 1, m + 1 + (s : Int) + 1, by omega, by go_num, rfl, by omega, HM2, HFin.out⟩
      case measure => (simp [intOf] <;> omega)
    · have HEnd : Hid (Chg F w wr ∧ Arr wr (KtR wr) (mkS mkKt cntKt k0 xs) (.slice A xs.length cap) F ∧ Free wr F) := by
        have h := HR.out
        rw [mkTo_all k0 xs (by omega)] at h
        exact ⟨h.2.2, h.1, h.2.1⟩
      have hf : Hid (m = k0 + (sumBy cntKt xs : Nat)) := by
        have h := HM.out
        rwa [List.take_of_length_le (by omega)] at h
      go_wp2
      go_ret
      exact ⟨ret_int hf.out, HEnd.out⟩
end Go.Proofs.Ytddjhneoacnkgaa

namespace Go.Proofs.Ytddjhneoacnkgaa
open Go.RowKit

def cntDt (x : Dt) : Nat := 1 + sumBy cntKt x.ctors
def mkDt (k : Int) (x : Dt) : Dt := ⟨mtext (k), mkS mkKt cntKt (k + 1) x.ctors⟩
theorem cntDt_def (x : Dt) : cntDt x = 1 + sumBy cntKt x.ctors := rfl

theorem cntsTy_le (xs : List Ty) : sumBy cntTy xs ≤ 16 * Ty.sizes xs := by
  have h : ∀ xs : List Ty, sumBy cntTy xs = 2 * xs.length := by
    intro xs
    induction xs with
    | nil => rfl
    | cons x xs ih => simp only [sumBy, ih, List.length_cons, cntTy]; omega
  rw [h]; unfold Ty.sizes; omega
theorem cntsKt_le (xs : List Kt) : sumBy cntKt xs ≤ 16 * Kt.sizes xs := by
  induction xs with
  | nil => exact Nat.zero_le _
  | cons x xs ih =>
    have h := cntsTy_le x.args
    have h1 : cntKt x = 2 + sumBy cntTy x.args := rfl
    have h2 : Kt.size x = x.name.size + Ty.sizes x.args := rfl
    simp only [Kt.sizes, sumBy, List.length_cons] at ih ⊢
    omega
theorem cntsDt_le (xs : List Dt) : sumBy cntDt xs ≤ 16 * Dt.sizes xs := by
  induction xs with
  | nil => exact Nat.zero_le _
  | cons x xs ih =>
    have h := cntsKt_le x.ctors
    have h1 : cntDt x = 1 + sumBy cntKt x.ctors := rfl
    have h2 : Dt.size x = x.name.size + Kt.sizes x.ctors := rfl
    simp only [Dt.sizes, sumBy, List.length_cons] at ih ⊢
    omega

set_option maxRecDepth 100000 in
set_option maxHeartbeats 1600000 in
theorem markDataS_any (xs : List Dt) (w : World) (v : Value) (F : List Nat) (k0 : Int) (h0 : 0 ≤ k0) (hk : k0 + (sumBy cntDt xs : Nat) ≤ 1099511627776) (hx : Arr w (DtR w) xs v F) (hfr : Free w F) (hf : Under w.heap.size F) :
    Calls Try.prog 24 #[v, .int .i64 k0] w fun e w' => e = .returned (.int .i64 (k0 + (sumBy cntDt xs : Nat))) ∧ Chg F w w' ∧ Arr w' (DtR w') (mkS mkDt cntDt k0 xs) v F ∧ Free w' F := by
  have HX := Lib.hid (And.intro hx (And.intro hfr (Chg.refl F w)))
  obtain ⟨A, cap, rfl, hc1, hc2⟩ := hx.form
  have HF := Lib.hid hf
  have HK := Lib.hid hk

  clear hx hfr hf hk
  go_enter Try.func24, Try.ntmps24
  go_wp2
  go_loopw [1, 5] (fun kv iv wr => ∃ i : Nat, ∃ m : Int, i ≤ xs.length ∧ iv = .int .i64 i ∧ kv = .int .i64 m ∧ 0 ≤ m ∧ Hid (m = k0 + (sumBy cntDt (xs.take i) : Nat)) ∧ Hid (Arr wr (DtR wr) (mkTo mkDt cntDt k0 xs i) (.slice A xs.length cap) F ∧ Free wr F ∧ Chg F w wr)) (fun _ iv _ => xs.length - (intOf iv).toNat)
  case atStart => exact ⟨0, k0, Nat.zero_le _, rfl, rfl, h0, (by simp [Hid, sumBy]), HX⟩
  case round =>
    obtain ⟨i, m, hi, rfl, rfl, hm0, HM, HR⟩ := hrel
    by_cases hlt : i < xs.length
    · have g1 : (0 : Int) ≤ (i : Int) := by omega
      have g2 : (i : Int) < (xs.length : Int) := by omega
      obtain ⟨b, off, c, F1, F2, F3, cap', hv, hFe, hc, hr, hfr2, hnb, hbl, hfz, hu2, hclose⟩ := HR.out.1.focus (fun w => DtR_len (w := w)) (fun w w' x cs G hk h => DtR.mono (w := w) (w' := w') x cs G hk h) HR.out.2.1 (HF.out.mono HR.out.2.2.size) (i := i) (by rw [mkTo_length]; exact hlt)
      obtain rfl : A = some ⟨b, off, none⟩ := by injection hv
      rw [mkTo_get hlt] at hr

      have hsum : m + (cntDt xs[i] : Nat) ≤ 1099511627776 := by
        have h1 := HM.out
        have h2 := HK.out
        have h3 := sumBy_take_le cntDt xs (i + 1)
        rw [sumBy_take_succ cntDt xs i hlt] at h3
        omega
      have HCl := Lib.hid hclose
      have HHv := Lib.hid hv
      have HFe := Lib.hid hFe
      clear hclose hv hFe
      obtain ⟨kv, rfl, ha, hs0⟩ := hr
      obtain ⟨A1, cap1, rfl, -, -⟩ := ha.form
      have hcd := cntDt_def xs[i]
      rw [hcd] at hsum
      have x0 : wr.cell? ⟨b, off + i * 2, none⟩ = some (.string xs[i].name) := hc 0 _ rfl
      have x1 : wr.cell? ⟨b, off + i * 2 + 1, none⟩ = some (.slice A1 xs[i].ctors.length cap1) := hc 1 _ rfl
      clear hc
      have HA := Lib.hid ha
      have HFr2 := Lib.hid hfr2
      have HU2 := Lib.hid hu2
      have HNB := Lib.hid hnb
      clear ha hfr2 hu2 hnb
      have hsn : (0 : Int) ≤ (sumBy cntKt xs[i].ctors : Nat) := by omega
      generalize hsg : sumBy cntKt xs[i].ctors = s at *
      have HSG := Lib.hid hsg
      have HCD := Lib.hid hcd
      clear hsg hcd
      have HFz := Lib.hid hfz
      clear hfz
      have U0 := Lib.hid (Upd.refl b (off + i * 2) 2 F2 wr)
      have K0 := Lib.hid (Kept.refl F2 wr)
      have z0 : wr.frozen? ⟨b, off + i * 2, none⟩ = false := (U0.out.froz _).trans (HFz.out _)
      go_wp2_with fail
      refine (markText_any (m) _ (by omega) (by omega)).mono ?_
      rintro e v1 ⟨rfl, hb1⟩
      have hlE1 : b < wr.heap.size := Nat.lt_of_lt_of_le hbl U0.out.size
      have U1 := Lib.hid (U0.out.below hb1 hlE1)
      have K1 := Lib.hid (K0.out.step hb1 (HU2.out.mono U0.out.size))
      have y0 := (hb1.cell (p := ⟨b, off + i * 2, none⟩) hlE1).trans x0
      have y1 := (hb1.cell (p := ⟨b, off + i * 2 + 1, none⟩) hlE1).trans x1
      clear x0 x1 z0
      have x0 := y0
      have x1 := y1
      clear y0 y1
      have hb11 : b < v1.heap.size := Nat.lt_of_lt_of_le hbl U1.out.size
      have z0 : v1.frozen? ⟨b, off + i * 2, none⟩ = false := (U1.out.froz _).trans (HFz.out _)
      clear hb1 hlE1
      go_wp2_with fail
      have U2 := Lib.hid (U1.out.set (j := off + i * 2) (by omega) (by omega) (.string (mtext (m))))
      have K2 := Lib.hid (K1.out.set (b := b) (j := off + i * 2) (u := .string (mtext (m))) HNB.out)
      have y0 : (v1.setCell ⟨b, off + i * 2, none⟩ (.string (mtext (m)))).cell? ⟨b, off + i * 2, none⟩ = some (.string (mtext (m))) := World.cell?_setCell_same _ _ _ x0
      have y1 := (World.cell?_setCell_other _ ⟨b, off + i * 2, none⟩ ⟨b, off + i * 2 + 1, none⟩ (.string (mtext (m))) (by intro e; injection e; omega)).trans x1
      clear x0 x1
      have x0 := y0
      have x1 := y1
      clear y0 y1
      refine (markCtorS_any xs[i].ctors _ _ F2 (m + 1) (by omega) (by rw [HSG.out]; omega) (HA.out.mono K2.out (fun x _ cs G hk h => (fun w w' x cs G hk h => KtR.mono (w := w) (w' := w') x cs G hk h) _ _ x cs G hk h)) (HFr2.out.kept K2.out) (HU2.out.mono U2.out.size)).mono ?_
      rintro e v2 ⟨rfl, hg2, hm2, hfr2⟩
      have hlE2 : b < (v1.setCell ⟨b, off + i * 2, none⟩ (.string (mtext (m)))).heap.size := Nat.lt_of_lt_of_le hbl U2.out.size
      have U3 := Lib.hid (U2.out.sub hg2 HNB.out hlE2)
      have y0 := (World.cell?_of_block (w := (v1.setCell ⟨b, off + i * 2, none⟩ (.string (mtext (m))))) (a := ⟨b, off + i * 2, none⟩) (hg2.block b hlE2 HNB.out)).trans x0
      have y1 := (World.cell?_of_block (w := (v1.setCell ⟨b, off + i * 2, none⟩ (.string (mtext (m))))) (a := ⟨b, off + i * 2 + 1, none⟩) (hg2.block b hlE2 HNB.out)).trans x1
      clear x0 x1 z0
      have x0 := y0
      have x1 := y1
      clear y0 y1
      have hb12 : b < v2.heap.size := Nat.lt_of_lt_of_le hbl U3.out.size
      have z0 : v2.frozen? ⟨b, off + i * 2, none⟩ = false := (U3.out.froz _).trans (HFz.out _)
      have HMk := Lib.hid hm2
      have HFrk := Lib.hid hfr2
      have hgs2 := hg2.size
      clear hm2 hfr2 hg2 hlE2
      have K3 := Lib.hid (Kept.refl F2 v2)
      rw [HSG.out]
      have X0 := Lib.hid x0
      have X1 := Lib.hid x1
      have hfin := HCl.out v2 (mkDt m xs[i]) _ U3.out (CellsAt.cons X0.out (CellsAt.cons X1.out (CellsAt.nil _ _ _))) (by obtain rfl := HSG.out; exact ⟨_, rfl, (HMk.out.mono K3.out (fun x _ cs G hk h => (fun w w' x cs G hk h => KtR.mono (w := w) (w' := w') x cs G hk h) _ _ x cs G hk h)), mtext_le _ (by omega) (by omega)⟩) (HFrk.out.kept K3.out)
      have hst : (mkTo mkDt cntDt k0 xs i).set i (mkDt m xs[i]) = mkTo mkDt cntDt k0 xs (i + 1) := by rw [HM.out]; exact mkTo_step hlt
      rw [hst] at hfin
      clear hst
      have HFin := Lib.hid (And.intro hfin.1 (And.intro hfin.2.1 (HR.out.2.2.trans hfin.2.2)))
      clear hfin
      have HM2 : Hid (m + 1 + (s : Int) = k0 + (sumBy cntDt (xs.take (i + 1)) : Nat)) := by
        have h1 := HM.out
        have h2 := HCD.out
        unfold Hid
        rw [sumBy_take_succ cntDt xs i hlt]
        omega
      go_wp2
      go_roundw
      case rel => exact ⟨i + 1, m + 1 + (s : Int), by omega, by go_num, rfl, by omega, HM2, HFin.out⟩
      case measure => (simp [intOf] <;> omega)
    · have HEnd : Hid (Chg F w wr ∧ Arr wr (DtR wr) (mkS mkDt cntDt k0 xs) (.slice A xs.length cap) F ∧ Free wr F) := by
        have h := HR.out
        rw [mkTo_all k0 xs (by omega)] at h
        exact ⟨h.2.2, h.1, h.2.1⟩
      have hf : Hid (m = k0 + (sumBy cntDt xs : Nat)) := by
        have h := HM.out
        rwa [List.take_of_length_le (by omega)] at h
      go_wp2
      go_ret
      exact ⟨ret_int hf.out, HEnd.out⟩
end Go.Proofs.Ytddjhneoacnkgaa

namespace Go.Proofs.Ytddjhneoacnkgaa
open Go.RowKit

def cntInt (x : Int) : Nat := 1
def mkInt (k : Int) (x : Int) : Int := k
theorem cntInt_def (x : Int) : cntInt x = 1 := rfl

set_option maxRecDepth 100000 in
set_option maxHeartbeats 1600000 in
theorem markIntS_any (xs : List Int) (w : World) (v : Value) (F : List Nat) (k0 : Int) (h0 : 0 ≤ k0) (hk : k0 + (sumBy cntInt xs : Nat) ≤ 1099511627776) (hx : Arr w (NatR w) xs v F) (hfr : Free w F) (hf : Under w.heap.size F) :
    Calls Try.prog 25 #[v, .int .i64 k0] w fun e w' => e = .returned (.int .i64 (k0 + (sumBy cntInt xs : Nat))) ∧ Chg F w w' ∧ Arr w' (NatR w') (mkS mkInt cntInt k0 xs) v F ∧ Free w' F := by
  have HX := Lib.hid (And.intro hx (And.intro hfr (Chg.refl F w)))
  obtain ⟨A, cap, rfl, hc1, hc2⟩ := hx.form
  have HF := Lib.hid hf
  have HK := Lib.hid hk

  clear hx hfr hf hk
  go_enter Try.func25, Try.ntmps25
  go_wp2
  go_loopw [1, 5] (fun kv iv wr => ∃ i : Nat, ∃ m : Int, i ≤ xs.length ∧ iv = .int .i64 i ∧ kv = .int .i64 m ∧ 0 ≤ m ∧ Hid (m = k0 + (sumBy cntInt (xs.take i) : Nat)) ∧ Hid (Arr wr (NatR wr) (mkTo mkInt cntInt k0 xs i) (.slice A xs.length cap) F ∧ Free wr F ∧ Chg F w wr)) (fun _ iv _ => xs.length - (intOf iv).toNat)
  case atStart => exact ⟨0, k0, Nat.zero_le _, rfl, rfl, h0, (by simp [Hid, sumBy]), HX⟩
  case round =>
    obtain ⟨i, m, hi, rfl, rfl, hm0, HM, HR⟩ := hrel
    by_cases hlt : i < xs.length
    · have g1 : (0 : Int) ≤ (i : Int) := by omega
      have g2 : (i : Int) < (xs.length : Int) := by omega
      obtain ⟨b, off, c, F1, F2, F3, cap', hv, hFe, hc, hr, hfr2, hnb, hbl, hfz, hu2, hclose⟩ := HR.out.1.focus NatR_len NatR_mono HR.out.2.1 (HF.out.mono HR.out.2.2.size) (i := i) (by rw [mkTo_length]; exact hlt)
      obtain rfl : A = some ⟨b, off, none⟩ := by injection hv
      rw [mkTo_get hlt] at hr
      simp only [Nat.mul_one] at hc hclose
      have hsum : m + (cntInt xs[i] : Nat) ≤ 1099511627776 := by
        have h1 := HM.out
        have h2 := HK.out
        have h3 := sumBy_take_le cntInt xs (i + 1)
        rw [sumBy_take_succ cntInt xs i hlt] at h3
        omega
      have HCl := Lib.hid hclose
      have HHv := Lib.hid hv
      have HFe := Lib.hid hFe
      clear hclose hv hFe
      obtain ⟨rfl, rfl⟩ := hr
      have hcd := cntInt_def xs[i]
      rw [hcd] at hsum
      have x0 : wr.cell? ⟨b, off + i, none⟩ = some (.int .i64 xs[i]) := hc 0 _ rfl
      clear hc
      have HFr2 := Lib.hid hfr2
      have HU2 := Lib.hid hu2
      have HNB := Lib.hid hnb
      have HCD := Lib.hid hcd
      clear hfr2 hu2 hnb hcd
      have HFz := Lib.hid hfz
      clear hfz
      have U0 := Lib.hid (Upd.refl b (off + i) 1 [] wr)
      have K0 := Lib.hid (Kept.refl [] wr)
      have z0 : wr.frozen? ⟨b, off + i, none⟩ = false := (U0.out.froz _).trans (HFz.out _)
      have X0 := Lib.hid x0
      have U1 := Lib.hid (U0.out.set (j := off + i) (by omega) (by omega) (.int .i64 (m)))
      have Y0 := Lib.hid (show (wr.setCell ⟨b, off + i, none⟩ (.int .i64 (m))).cell? ⟨b, off + i, none⟩ = some (.int .i64 (m)) from World.cell?_setCell_same _ _ _ X0.out)
      clear X0
      have X0 := Y0
      clear Y0
      have hfin := HCl.out (wr.setCell ⟨b, off + i, none⟩ (.int .i64 (m))) (mkInt m xs[i]) _ U1.out (CellsAt.cons X0.out (CellsAt.nil _ _ _)) (⟨rfl, rfl⟩) (Free.nil _)
      have hst : (mkTo mkInt cntInt k0 xs i).set i (mkInt m xs[i]) = mkTo mkInt cntInt k0 xs (i + 1) := by rw [HM.out]; exact mkTo_step hlt
      rw [hst] at hfin
      clear hst
      have HFin := Lib.hid (And.intro hfin.1 (And.intro hfin.2.1 (HR.out.2.2.trans hfin.2.2)))
      clear hfin
      have HM2 : Hid (m + 1 = k0 + (sumBy cntInt (xs.take (i + 1)) : Nat)) := by
        have h1 := HM.out
        have h2 := HCD.out
        unfold Hid
        rw [sumBy_take_succ cntInt xs i hlt]
        omega
      go_wp2
      go_roundw
      case rel => exact ⟨i + 1, m + 1, by omega, by go_num, rfl, by omega, HM2, HFin.out⟩
      case measure => (simp [intOf] <;> omega)
    · have HEnd : Hid (Chg F w wr ∧ Arr wr (NatR wr) (mkS mkInt cntInt k0 xs) (.slice A xs.length cap) F ∧ Free wr F) := by
        have h := HR.out
        rw [mkTo_all k0 xs (by omega)] at h
        exact ⟨h.2.2, h.1, h.2.1⟩
      have hf : Hid (m = k0 + (sumBy cntInt xs : Nat)) := by
        have h := HM.out
        rwa [List.take_of_length_le (by omega)] at h
      go_wp2
      go_ret
      exact ⟨ret_int hf.out, HEnd.out⟩
end Go.Proofs.Ytddjhneoacnkgaa

namespace Go.Proofs.Ytddjhneoacnkgaa
open Go.RowKit

set_option maxRecDepth 100000 in
set_option maxHeartbeats 1600000 in
theorem heldIntS_any (xs : List Int) (w : World) (v : Value) (F : List Nat) (k0 : Int) (h0 : 0 ≤ k0) (hk : k0 + (sumBy cntInt xs : Nat) ≤ 1099511627776) (hx : Arr w (NatR w) (mkS mkInt cntInt k0 xs) v F) (hf : Under w.heap.size F) :
    Calls Try.prog 26 #[v, .int .i64 k0] w fun e w' => e = .returned (.int .i64 (k0 + (sumBy cntInt xs : Nat))) ∧ Below w.heap.size w w' := by
  obtain ⟨A, cap, rfl, hc1, hc2⟩ := hx.form
  rw [mkS_length] at hx hc1
  rw [mkS_length]
  have HX := Lib.hid hx
  have HF := Lib.hid hf
  have HK := Lib.hid hk

  clear hx hf hk
  go_enter Try.func26, Try.ntmps26
  go_wp2
  go_loopw [1, 5] (fun kv iv wr => ∃ i : Nat, ∃ m : Int, i ≤ xs.length ∧ iv = .int .i64 i ∧ kv = .int .i64 m ∧ 0 ≤ m ∧ Hid (m = k0 + (sumBy cntInt (xs.take i) : Nat)) ∧ Below w.heap.size w wr) (fun _ iv _ => xs.length - (intOf iv).toNat)
  case atStart => exact ⟨0, k0, Nat.zero_le _, rfl, rfl, h0, (by simp [Hid, sumBy]), Below.refl _ _⟩
  case round =>
    obtain ⟨i, m, hi, rfl, rfl, hm0, HM, hB⟩ := hrel
    by_cases hlt : i < xs.length
    · have g1 : (0 : Int) ≤ (i : Int) := by omega
      have g2 : (i : Int) < (xs.length : Int) := by omega
      obtain ⟨b, off, c, F2, rfl, hb, hc, hr, hG⟩ := HX.out.get (NatR_len _) (i := i) (by rw [mkS_length]; exact hlt)
      have hge : (mkS mkInt cntInt k0 xs)[i]'(by rw [mkS_length]; exact hlt) = mkInt m xs[i] := by
        have h := mkS_get (mk := mkInt) (cnt := cntInt) (k := k0) hlt
        rw [← HM.out, List.getElem?_eq_getElem (by rw [mkS_length]; exact hlt)] at h
        exact Option.some.inj h
      rw [hge] at hr
      clear hge
      simp only [Nat.mul_one] at hc
      have hbl := HF.out b hb
      have hc := hc.same (hB.block b hbl)
      have hu2 := HF.out.sub hG
      clear hG hb
      have hbw := Nat.lt_of_lt_of_le hbl hB.size
      have hsum : m + (cntInt xs[i] : Nat) ≤ 1099511627776 := by
        have h1 := HM.out
        have h2 := HK.out
        have h3 := sumBy_take_le cntInt xs (i + 1)
        rw [sumBy_take_succ cntInt xs i hlt] at h3
        omega
      unfold mkInt at hr
      obtain ⟨rfl, rfl⟩ := hr
      have hcd := cntInt_def xs[i]
      rw [hcd] at hsum
      have x0 : wr.cell? ⟨b, off + i, none⟩ = some (.int .i64 (m)) := hc 0 _ rfl
      clear hc
      have HCD := Lib.hid hcd
      clear hcd hu2
      have HM2 : Hid (m + 1 = k0 + (sumBy cntInt (xs.take (i + 1)) : Nat)) := by
        have h1 := HM.out
        have h2 := HCD.out
        unfold Hid
        rw [sumBy_take_succ cntInt xs i hlt]
        omega
      go_wp2
      go_roundw
      case rel => exact ⟨i + 1, m + 1, by omega, by go_num, rfl, by omega, HM2, hB⟩
      case measure => (simp [intOf] <;> omega)
    · have hf : Hid (m = k0 + (sumBy cntInt xs : Nat)) := by
        have h := HM.out
        rwa [List.take_of_length_le (by omega)] at h
      go_wp2
      go_ret
      exact ⟨ret_int hf.out, hB⟩
end Go.Proofs.Ytddjhneoacnkgaa

namespace Go.Proofs.Ytddjhneoacnkgaa
open Go.ChangeShapes Go.WideShapes Go.ChangeAt Go.RowKit

section
variable {H : Type} {enc : TypeId × Value → H} {P : Program} {w : World} {base : Nat} {spare : Nat → Bool} {held : Bool}

theorem cell_lt {w : World} {a : Addr} {v : Value} (h : w.cell? a = some v) : a.block < w.heap.size := by
  rcases Nat.lt_or_ge a.block w.heap.size with hl | hl
  · exact hl
  · unfold World.cell? at h
    rw [Array.getElem?_eq_none hl] at h
    cases h

theorem open_Arr {α : Type} (R : α → List Value → List Nat → Prop) {t e : TypeId} {k n fuel : Nat} {cs : List Value} {x : DataW H × List MemPlace} (ht : P.underlying t = some (.slice e)) (hk : P.cellsOf e = k) (hk0 : 0 < k) (hf : fuel = n + 1)
    (hR : ∀ ds y, DataW.trod enc P w base spare held n e ds = some y → ds.length = k → ∃ a F, R a ds F ∧ Under w.heap.size F)
    (h : DataW.trod enc P w base spare held fuel t cs = some x) : ∃ xs v F, cs = [v] ∧ Arr w R xs v F ∧ Under w.heap.size F := by
  subst hf
  rcases DataW.trod_slice ht h with ⟨rfl, -⟩ | ⟨a, len, cap, elems, rest, m, hm, rfl, -, -, hl, hmax, hlen, hel, -, -⟩
  · exact ⟨[], _, [], rfl, Arr.nil, Under.nil _⟩
  · obtain rfl : n = m := by omega
    by_cases h0 : len = 0
    · subst h0
      exact ⟨[], _, [], rfl, ⟨_, _, rfl, hl, hmax, .inl ⟨rfl, rfl⟩⟩, Under.nil _⟩
    · have get : ∀ i, i < len → ∃ ds y, (∀ j, j < k → w.cell? (a.add (i * k + j)) = ds[j]?) ∧ ds.length = k ∧ DataW.trod enc P w base spare held n e ds = some y := fun i hi => by
        have h1 := hel i hi
        rw [List.getElem?_eq_getElem (by omega), Option.bind_eq_some_iff] at h1
        obtain ⟨ds, h2, h3⟩ := h1
        obtain ⟨-, h4, h5⟩ := World.cells?_some h2
        rw [hk] at h4 h5
        refine ⟨ds, _, fun j hj => ?_, h4, h3⟩
        rw [← h5 j hj]
        congr 1
        unfold Addr.add
        by_cases e1 : i * k = 0 <;> by_cases e2 : j = 0 <;> simp [e1, e2, Nat.add_assoc]
      obtain ⟨b, off, spot⟩ := a
      obtain ⟨ds0, y0, g1, g2, -⟩ := get 0 (by omega)
      have hc0 : w.cell? ⟨b, off, spot⟩ = some (ds0[0]'(by omega)) := by
        have := g1 0 hk0
        simpa [Addr.add, List.getElem?_eq_getElem (show 0 < ds0.length by omega)] using this
      have hspot : spot = none := by simpa using World.cell?_spot hc0
      subst hspot
      have hb : b < w.heap.size := cell_lt hc0
      have key : ∀ m, m ≤ len → ∃ (xs : List α) (cs : List Value) (F : List Nat), xs.length = m ∧ cs.length = m * k ∧ CellsAt w b off cs ∧ Flat R xs cs F ∧ Under w.heap.size F := by
        intro m
        induction m with
        | zero => intro _; exact ⟨[], [], [], rfl, by simp, fun j u hj => by simp at hj, ⟨rfl, rfl⟩, Under.nil _⟩
        | succ m ih =>
          intro hm
          obtain ⟨xs, cs, F, h1, h2, h3, h4, h5⟩ := ih (by omega)
          obtain ⟨ds, y, g1, g2, g3⟩ := get m (by omega)
          obtain ⟨z, G, r1, r2⟩ := hR ds y g3 g2
          refine ⟨xs ++ [z], cs ++ ds, F ++ G, by simp [h1], by simp [h2, g2, Nat.add_mul], h3.append (fun j u hj => ?_), h4.append (Flat.one r1), fun c hc => ?_⟩
          · have hjk : j < k := by rw [← g2]; exact (List.getElem?_eq_some_iff.1 hj).1
            have := g1 j hjk
            rw [hj, Addr.add_lit] at this
            rw [h2, ← this]
            congr 2
            omega
          · rcases List.mem_append.1 hc with hc | hc
            · exact h5 c hc
            · exact r2 c hc
      obtain ⟨xs, cs, F, h1, h2, h3, h4, h5⟩ := key len (Nat.le_refl _)
      refine ⟨xs, _, b :: F, rfl, ⟨_, _, by rw [h1], by omega, hmax, .inr ⟨b, off, cs, F, rfl, h3, h4, rfl⟩⟩, fun c hc => ?_⟩
      rcases List.mem_cons.1 hc with rfl | hc
      · exact hb
      · exact h5 c hc

theorem one_field {fs : Array Field} {n : Nat} {cs : List Value} {xs : List (DataW H × List MemPlace)}
    (hf : ∀ (i : Nat) (f : Field), fs[i]? = some f → DataW.trod enc P w base spare held n f.type ((cs.drop f.offset).take (P.cellsOf f.type)) = xs[i]?)
    (hone : Deep.oneCellFields P fs = true) (hxl : xs.length = fs.size) (i : Nat) (f : Field) (hi : fs[i]? = some f) (c : Value) (hc : cs[i]? = some c) :
    ∃ y, DataW.trod enc P w base spare held n f.type [c] = some y := by
  obtain ⟨h1, h2⟩ := Deep.hone_of hone i f hi
  have h := hf i f hi
  have hlt : i < fs.size := (Array.getElem?_eq_some_iff.1 hi).1
  rw [List.getElem?_eq_getElem (show i < xs.length by omega), h1, h2] at h
  obtain ⟨hlc, hcc⟩ := List.getElem?_eq_some_iff.1 hc
  rw [List.drop_eq_getElem_cons hlc, hcc] at h
  exact ⟨_, h⟩

theorem sub_field {fs : Array Field} {n : Nat} {cs : List Value} {xs : List (DataW H × List MemPlace)}
    (hf : ∀ (i : Nat) (f : Field), fs[i]? = some f → DataW.trod enc P w base spare held n f.type ((cs.drop f.offset).take (P.cellsOf f.type)) = xs[i]?)
    (hxl : xs.length = fs.size) (i : Nat) (f : Field) (hi : fs[i]? = some f) (k off : Nat) (hk : P.cellsOf f.type = k) (ho : f.offset = off) :
    ∃ y, DataW.trod enc P w base spare held n f.type ((cs.drop off).take k) = some y := by
  have h := hf i f hi
  have hlt : i < fs.size := (Array.getElem?_eq_some_iff.1 hi).1
  rw [List.getElem?_eq_getElem (show i < xs.length by omega), hk, ho] at h
  exact ⟨_, h⟩

theorem open_slice_arg {α : Type} (R : α → List Value → List Nat → Prop) {t e : TypeId} {k : Nat} {r : Reach} {b0 : Nat} {v : Value} {d : DataW H} {ps : List MemPlace} (ht : P.underlying t = some (.slice e)) (hk : P.cellsOf e = k) (hk0 : 0 < k)
    (hR : ∀ n ds y, DataW.trod enc P w base spare held n e ds = some y → ∃ a F, R a ds F ∧ Under w.heap.size F)
    (hval : Value.okWide P w r b0 t v) (h : DataW.Trod enc P w base spare held t v d ps) : ∃ xs F, Arr w R xs v F ∧ Under w.heap.size F := by
  obtain ⟨a, len, cap, rfl⟩ := okWide_slice ht hval
  obtain ⟨fuel, hf⟩ := h
  cases fuel with
  | zero => simp [DataW.trod] at hf
  | succ n =>
    obtain ⟨xs, v, F, hv, ha, hF⟩ := open_Arr R ht hk hk0 rfl (fun ds y hd _ => hR n ds y hd) hf
    have : v = .slice a len cap := by simpa [Value.cells] using hv.symm
    subst this
    exact ⟨xs, F, ha, hF⟩
end
end Go.Proofs.Ytddjhneoacnkgaa

namespace Go.Proofs.Ytddjhneoacnkgaa
open Go.ChangeShapes Go.WideShapes Go.ChangeAt Go.RowKit
set_option maxRecDepth 100000

theorem cellsOf_lawsTy : Try.prog.cellsOf 31 = 2 := by kernel_rfl

theorem open_Ty_cells {H : Type} {enc : TypeId × Value → H} {w : World} {base : Nat} {spare : Nat → Bool} {held : Bool} (fuel : Nat) (cs : List Value) (x : DataW H × List MemPlace)
    (h : DataW.trod enc Try.prog w base spare held fuel 31 cs = some x) : ∃ v F, TyR w v cs F ∧ Under w.heap.size F := by
  obtain ⟨xs, n, rfl, -, hl, hxl, hf⟩ := DataW.trod_struct Try.underlying31 h
  rw [cellsOf_lawsTy] at hl
  match cs, hl with
  | [c0, c1], _ =>
  obtain ⟨y0, f0⟩ := sub_field hf hxl 0 _ rfl 1 0 (by kernel_rfl) rfl
  obtain ⟨i0, e0, -, -⟩ := DataW.trod_int Try.underlying3 f0
  obtain rfl : c0 = .int .i64 i0 := by simpa using e0
  obtain ⟨y1, f1⟩ := sub_field hf hxl 1 _ rfl 1 1 (by kernel_rfl) rfl
  obtain ⟨i1, e1, -, -⟩ := DataW.trod_int Try.underlying3 f1
  obtain rfl : c1 = .int .i64 i1 := by simpa using e1
  exact ⟨⟨i0, i1⟩, [], ⟨rfl, rfl⟩, Under.nil _⟩

theorem open_Ty {H : Type} {enc : TypeId × Value → H} {w : World} {base : Nat} {spare : Nat → Bool} {held : Bool} {r : Reach} {b0 : Nat} {v : Value} {d : DataW H} {ps : List MemPlace} (hval : Value.okWide Try.prog w r b0 31 v)
    (h : DataW.Trod enc Try.prog w base spare held 31 v d ps) : ∃ (x : Ty) (cs : List Value) (F : List Nat), v = .agg cs.toArray ∧ TyR w x cs F ∧ Under w.heap.size F := by
  obtain ⟨cs, rfl, -⟩ := okWide_struct Try.underlying31 hval
  obtain ⟨fuel, hf⟩ := h
  obtain ⟨x, F, h1, h2⟩ := open_Ty_cells fuel _ _ hf
  exact ⟨x, cs.toList, F, by simp, h1, h2⟩
theorem open_Tys {H : Type} {enc : TypeId × Value → H} {w : World} {base : Nat} {spare : Nat → Bool} {held : Bool} {r : Reach} {b0 : Nat} {v : Value} {d : DataW H} {ps : List MemPlace} (hval : Value.okWide Try.prog w r b0 111 v)
    (h : DataW.Trod enc Try.prog w base spare held 111 v d ps) : ∃ (x : List Ty) (F : List Nat), Arr w (TyR w) x v F ∧ Under w.heap.size F :=
  open_slice_arg (TyR w) Try.underlying111 cellsOf_lawsTy (by decide) (fun n ds y hd => open_Ty_cells n ds y hd) hval h
end Go.Proofs.Ytddjhneoacnkgaa

namespace Go.Proofs.Ytddjhneoacnkgaa
open Go.ChangeShapes Go.WideShapes Go.ChangeAt Go.RowKit
set_option maxRecDepth 100000

theorem cellsOf_lawsKt : Try.prog.cellsOf 113 = 3 := by kernel_rfl

theorem open_Kt_cells {H : Type} {enc : TypeId × Value → H} {w : World} {base : Nat} {spare : Nat → Bool} {held : Bool} (fuel : Nat) (cs : List Value) (x : DataW H × List MemPlace)
    (h : DataW.trod enc Try.prog w base spare held fuel 113 cs = some x) : ∃ v F, KtR w v cs F ∧ Under w.heap.size F := by
  obtain ⟨xs, n, rfl, -, hl, hxl, hf⟩ := DataW.trod_struct Try.underlying113 h
  rw [cellsOf_lawsKt] at hl
  match cs, hl with
  | [c0, c1, c2], _ =>
  obtain ⟨y0, f0⟩ := sub_field hf hxl 0 _ rfl 1 0 (by kernel_rfl) rfl
  obtain ⟨s0, e0, -, hs0⟩ := DataW.trod_string Try.underlying9 f0
  obtain rfl : c0 = .string s0 := by simpa using e0
  obtain ⟨y1, f1⟩ := sub_field hf hxl 1 _ rfl 1 1 (by kernel_rfl) rfl
  cases n with
  | zero => simp [DataW.trod] at f1
  | succ n =>
  obtain ⟨l1, kv, F, ek, ha, hF⟩ := open_Arr (TyR w) Try.underlying111 cellsOf_lawsTy (by decide) rfl (fun ds y hd _ => open_Ty_cells n ds y hd) f1
  obtain rfl : c1 = kv := by simpa using ek
  obtain ⟨y2, f2⟩ := sub_field hf hxl 2 _ rfl 1 2 (by kernel_rfl) rfl
  obtain ⟨i2, e2, -, -⟩ := DataW.trod_int Try.underlying3 f2
  obtain rfl : c2 = .int .i64 i2 := by simpa using e2
  exact ⟨⟨s0, l1, i2⟩, F, ⟨_, rfl, ha, (by unfold maxLen at hs0; omega)⟩, hF⟩

theorem open_Kt {H : Type} {enc : TypeId × Value → H} {w : World} {base : Nat} {spare : Nat → Bool} {held : Bool} {r : Reach} {b0 : Nat} {v : Value} {d : DataW H} {ps : List MemPlace} (hval : Value.okWide Try.prog w r b0 113 v)
    (h : DataW.Trod enc Try.prog w base spare held 113 v d ps) : ∃ (x : Kt) (cs : List Value) (F : List Nat), v = .agg cs.toArray ∧ KtR w x cs F ∧ Under w.heap.size F := by
  obtain ⟨cs, rfl, -⟩ := okWide_struct Try.underlying113 hval
  obtain ⟨fuel, hf⟩ := h
  obtain ⟨x, F, h1, h2⟩ := open_Kt_cells fuel _ _ hf
  exact ⟨x, cs.toList, F, by simp, h1, h2⟩
theorem open_Kts {H : Type} {enc : TypeId × Value → H} {w : World} {base : Nat} {spare : Nat → Bool} {held : Bool} {r : Reach} {b0 : Nat} {v : Value} {d : DataW H} {ps : List MemPlace} (hval : Value.okWide Try.prog w r b0 60 v)
    (h : DataW.Trod enc Try.prog w base spare held 60 v d ps) : ∃ (x : List Kt) (F : List Nat), Arr w (KtR w) x v F ∧ Under w.heap.size F :=
  open_slice_arg (KtR w) Try.underlying60 cellsOf_lawsKt (by decide) (fun n ds y hd => open_Kt_cells n ds y hd) hval h
end Go.Proofs.Ytddjhneoacnkgaa

namespace Go.Proofs.Ytddjhneoacnkgaa
open Go.ChangeShapes Go.WideShapes Go.ChangeAt Go.RowKit
set_option maxRecDepth 100000

theorem cellsOf_lawsDt : Try.prog.cellsOf 62 = 2 := by kernel_rfl

theorem open_Dt_cells {H : Type} {enc : TypeId × Value → H} {w : World} {base : Nat} {spare : Nat → Bool} {held : Bool} (fuel : Nat) (cs : List Value) (x : DataW H × List MemPlace)
    (h : DataW.trod enc Try.prog w base spare held fuel 62 cs = some x) : ∃ v F, DtR w v cs F ∧ Under w.heap.size F := by
  obtain ⟨xs, n, rfl, -, hl, hxl, hf⟩ := DataW.trod_struct Try.underlying62 h
  rw [cellsOf_lawsDt] at hl
  match cs, hl with
  | [c0, c1], _ =>
  obtain ⟨y0, f0⟩ := sub_field hf hxl 0 _ rfl 1 0 (by kernel_rfl) rfl
  obtain ⟨s0, e0, -, hs0⟩ := DataW.trod_string Try.underlying9 f0
  obtain rfl : c0 = .string s0 := by simpa using e0
  obtain ⟨y1, f1⟩ := sub_field hf hxl 1 _ rfl 1 1 (by kernel_rfl) rfl
  cases n with
  | zero => simp [DataW.trod] at f1
  | succ n =>
  obtain ⟨l1, kv, F, ek, ha, hF⟩ := open_Arr (KtR w) Try.underlying60 cellsOf_lawsKt (by decide) rfl (fun ds y hd _ => open_Kt_cells n ds y hd) f1
  obtain rfl : c1 = kv := by simpa using ek
  exact ⟨⟨s0, l1⟩, F, ⟨_, rfl, ha, (by unfold maxLen at hs0; omega)⟩, hF⟩

theorem open_Dt {H : Type} {enc : TypeId × Value → H} {w : World} {base : Nat} {spare : Nat → Bool} {held : Bool} {r : Reach} {b0 : Nat} {v : Value} {d : DataW H} {ps : List MemPlace} (hval : Value.okWide Try.prog w r b0 62 v)
    (h : DataW.Trod enc Try.prog w base spare held 62 v d ps) : ∃ (x : Dt) (cs : List Value) (F : List Nat), v = .agg cs.toArray ∧ DtR w x cs F ∧ Under w.heap.size F := by
  obtain ⟨cs, rfl, -⟩ := okWide_struct Try.underlying62 hval
  obtain ⟨fuel, hf⟩ := h
  obtain ⟨x, F, h1, h2⟩ := open_Dt_cells fuel _ _ hf
  exact ⟨x, cs.toList, F, by simp, h1, h2⟩
theorem open_Dts {H : Type} {enc : TypeId × Value → H} {w : World} {base : Nat} {spare : Nat → Bool} {held : Bool} {r : Reach} {b0 : Nat} {v : Value} {d : DataW H} {ps : List MemPlace} (hval : Value.okWide Try.prog w r b0 22 v)
    (h : DataW.Trod enc Try.prog w base spare held 22 v d ps) : ∃ (x : List Dt) (F : List Nat), Arr w (DtR w) x v F ∧ Under w.heap.size F :=
  open_slice_arg (DtR w) Try.underlying22 cellsOf_lawsDt (by decide) (fun n ds y hd => open_Dt_cells n ds y hd) hval h
end Go.Proofs.Ytddjhneoacnkgaa
