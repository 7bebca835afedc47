/-
  Lemmas and contracts of functions: l1Ctors of the reference, and CtorsOf of both. Conditions: none for CtorsOf. Slices of numbers. Conditions: none. A number in a list: slices.Contains and l1Has. Conditions: none. ArgTypes of the reference and of the program. Conditions: none. Lists of texts in brackets; names of constructors. Conditions: none. Variables with their types as Lean data, and how they lie in memory. Conditions: none. What a pattern for a type is, in plain Lean: the shape of its nodes, its variables, and that each stands once. Conditions: none. Least depths of values, in plain Lean: sweeps over a table reach a fixed point after ls many sweeps ls there are entries and one more. Conditions: the world is valid. Sweeps over a table of least depths reach a fixed point: as many as there are entries and one more are enough. Conditions: the world is valid. The constructors that can make values of a type, in plain Lean. Conditions: none. Least depths in plain Lean: the least depth of a type is that of a constructor; any index is no deeper than a given one. Conditions: the world is valid. Patterns in memory: an element in view; nodes. Conditions: none. Values as Lean data, and how they lie in memory. Conditions: none. Values of a type, in plain Lean; a value in a list. Conditions: none. Small functions of the reference on patterns: l3Kids, l3Own, l3Types. Conditions: the world is valid. Least values, in plain Lean. Conditions: the world is valid. l3Shape of the reference: the shape of a pattern, down to a depth. Conditions: the world is valid. What the program's scan of a pattern answers, kid by kid. Conditions: none. l3Find of the reference. Conditions: none. Writing every part of a datum anew (mark) and reading it back (held): what changes in memory. Conditions: none.
-/
import Derived.Test.YtilndhmegaccmaaGreatDoorKAB
import Derived.Deep.RegionHeld3
import Derived.Deep.RegionWith
import Derived.Test.YtilndhmegaccmaaGreatDoorKAA
import Derived.Test.YtilndhmegaccmaaGreatDoorChecked
import Derived.Deep.QuietTactic
import Derived.BigQuiet
import Derived.IntWalk

set_option linter.unusedVariables false
set_option linter.unusedSimpArgs false

namespace Go.Proofs.YtilndhmegaccmaaGreatDoor
open Go.RowKit

/-- what CtorsOf gives -/
def ctorsOfL (xs : List Dt) (t : Ty) : List Int := if typeValidB xs t = true then ctorsL xs t else []
theorem sumBy_one {α : Type} {f : α → Nat} (h : ∀ x, f x = 1) (xs : List α) : sumBy f xs = xs.length := by
  induction xs with
  | nil => rfl
  | cons x xs ih => rw [sumBy, ih, h, List.length_cons]; omega
theorem ctorsOfL_len (xs : List Dt) (t : Ty) : (ctorsOfL xs t).length ≤ 4 := by
  unfold ctorsOfL
  split
  · rename_i h
    obtain ⟨hw, ht⟩ := typeValid_split h
    rcases typeOkB_in ht with hd | ⟨d, hd, hdl⟩
    · rw [ctorsL_int hd]; simp
    · obtain ⟨t1, t2⟩ := t
      simp only at hd
      subst hd
      rw [ctorsL_data hdl]
      exact Nat.le_trans (fitTo_len _ _ _) (hw.at hdl).hi
  · simp

set_option maxRecDepth 100000 in
set_option maxHeartbeats 1600000 in
theorem spec_l1Fits (c : Kt) (i : Int) (A : Option Addr) (n cap : Nat) (w : World) : Calls Tryz.prog 91 #[.agg #[.string c.name, .slice A n cap, .int .i64 c.idx], .int .i64 i] w fun e w' => e = .returned (.bool (fitsB c i)) ∧ Below w.heap.size w w' := by
  cases q1 : (c.idx == 0) with
  | true =>
    have hf : Hid (fitsB c i = true) := by unfold Hid fitsB; rw [q1, Bool.true_or]
    go_enter Tryz.func91, Tryz.ntmps91
    go_wp2
    go_ret
    exact ⟨ret_bool hf.out.symm, (Below.refl _ _).alloc (Nat.le_refl _) _⟩
  | false =>
    cases q0 : (i == 0) with
    | true =>
      have hf : Hid (fitsB c i = true) := by unfold Hid fitsB; rw [q0, Bool.true_or, Bool.or_true]
      go_enter Tryz.func91, Tryz.ntmps91
      go_wp2
      go_ret
      exact ⟨ret_bool hf.out.symm, (Below.refl _ _).alloc (Nat.le_refl _) _⟩
    | false =>
      have hf : Hid (fitsB c i = (c.idx == i)) := by unfold Hid fitsB; rw [q0, q1, Bool.false_or, Bool.false_or]
      go_enter Tryz.func91, Tryz.ntmps91
      go_wp2
      go_ret
      exact ⟨ret_bool hf.out.symm, (Below.refl _ _).alloc (Nat.le_refl _) _⟩
set_option maxRecDepth 100000 in
set_option maxHeartbeats 1600000 in
theorem spec_l1Ctors (xs : List Dt) (t : Ty) (w : World) (v : Value) (F : List Nat) (hx : Arr w (DtR w) xs v F) (hf : Under w.heap.size F) (hw : WorldOK xs) (ht : InWorld xs.length t) :
    Calls Tryz.prog 79 #[v, .agg #[.int .i64 t.d, .int .i64 t.i]] w (MadeNats w (ctorsL xs t)) := by
  obtain ⟨A, cap, rfl, hc1, hc2⟩ := hx.form
  have HX := Lib.hid hx
  have HF := Lib.hid hf
  clear hx hf
  rcases ht with hd | ⟨d, hd, hdl⟩
  · have hf := Lib.hid (ctorsL_int (xs := xs) hd)
    have t0 : (t.d == -1) = true := by simp [hd]
    clear hd
    go_enter Tryz.func79, Tryz.ntmps79
    go_wp2
    go_ret
    rw [hf.out]
    exact ⟨_, [], rfl, ((Below.refl _ _).alloc (Nat.le_refl _) _).alloc (by simp) _, ⟨_, _, rfl, by simp, by simp [maxLen], .inl ⟨rfl, rfl⟩⟩, Free.nil _, Fresh.nil _ _⟩
  · obtain ⟨t1, t2⟩ := t
    simp only at hd
    subst hd
    have hf := Lib.hid (ctorsL_data (i := t2) hdl)
    have t0 : ((d : Int) == -1) = false := by rw [beq_eq_false_iff_ne]; omega
    obtain ⟨i0, hi, hz0, hz1, hz2⟩ := info_parts info_int
    have HI := Lib.hid hi
    have HZ0 := Lib.hid hz0
    have HZ1 := Lib.hid hz1
    have HZ2 := Lib.hid hz2
    clear hi hz0 hz1 hz2
    obtain ⟨b, off, rfl⟩ := HX.out.ptr (by omega)
    have hB0 : Below w.heap.size w ((w.alloc (.cells #[.int .i64 (d : Int), .int .i64 t2] 33)).alloc (.cells #[] 3)) := ((Below.refl _ _).alloc (Nat.le_refl _) _).alloc (by simp) _
    have KT0 : Hid (Blk ((w.alloc (.cells #[.int .i64 (d : Int), .int .i64 t2] 33)).alloc (.cells #[] 3)) w.heap.size 33 #[.int .i64 (d : Int), .int .i64 t2]) := (Blk.new _ _ _).same (Below.heap_alloc _ _ _ (by simp))
    have HO0 : Hid (Own ((w.alloc (.cells #[.int .i64 (d : Int), .int .i64 t2] 33)).alloc (.cells #[] 3)) (w.heap.size + 1) 3 1 NatR ([] : List Int) (.slice (some ⟨w.heap.size + 1, 0, none⟩) 0 0) []) := by
      have h := Own.made (w.alloc (.cells #[.int .i64 (d : Int), .int .i64 t2] 33)) (w.heap.size + 1) 3 1 NatR #[] 0 (by simp) (by simp [maxLen]) rfl
      rwa [World.size_alloc] at h
    have g1 : (0 : Int) ≤ (d : Int) := by omega
    have g2 : (d : Int) < (xs.length : Int) := by omega
    have HL := Lib.hid (hw.at hdl).hi
    go_enter Tryz.func79, Tryz.ntmps79
    go_wp2
    go_loopw [5, 6] (fun ov iv wr => ∃ k : Nat, k ≤ xs[d].ctors.length ∧ iv = .int .i64 k ∧ Hid (Own wr (w.heap.size + 1) 3 1 NatR (fitTo xs[d].ctors t2 k) ov []) ∧ Below w.heap.size w wr ∧ Hid (Blk wr w.heap.size 33 #[.int .i64 (d : Int), .int .i64 t2])) (fun _ iv _ => xs[d].ctors.length - (intOf iv).toNat)
    case atStart => exact ⟨0, Nat.zero_le _, rfl, HO0, hB0, KT0⟩
    case round =>
      clear hB0 KT0 HO0
      obtain ⟨k, hk, rfl, HO, hB, KT⟩ := hrel
      obtain ⟨A1, cap1, G1, hb, c0, c1, HK, HG, hs, hn1, hn2⟩ := ArrDt.at HX.out HF.out hB d hdl
      clear c0 hs
      have y0 : wr.cell? ⟨w.heap.size, 0, none⟩ = some (.int .i64 (d : Int)) := (KT.out.cell 0).trans (by simp)
      have y1 : wr.cell? ⟨w.heap.size, 1, none⟩ = some (.int .i64 t2) := (KT.out.cell 1).trans (by simp)
      have hy1 := KT.out.lt
      by_cases hkl : k < xs[d].ctors.length
      · obtain ⟨b2, off2, rfl⟩ := HK.out.ptr (by omega)
        obtain ⟨A3, cap3, G3, hb3, k0, k1, k2, HC, HG3, -, -, -⟩ := ArrKt.rep HK.out HG.out hB k hkl
        have g3 : (0 : Int) ≤ (k : Int) := by omega
        have g4 : (k : Int) < (xs[d].ctors.length : Int) := by omega
        go_wp2_with fail
        have hkeep : ∀ U U' : World, (U.cell? ⟨w.heap.size, 0, none⟩ = some (.int .i64 (d : Int)) ∧ U.cell? ⟨w.heap.size, 1, none⟩ = some (.int .i64 t2) ∧ U.cell? ⟨b, off + d * 2 + 1, none⟩ = some (.slice (some ⟨b2, off2, none⟩) xs[d].ctors.length cap1) ∧ U.cell? ⟨b2, off2 + k * 3, none⟩ = some (.string xs[d].ctors[k].name) ∧ U.cell? ⟨b2, off2 + k * 3 + 1, none⟩ = some (.slice A3 xs[d].ctors[k].args.length cap3) ∧ U.cell? ⟨b2, off2 + k * 3 + 2, none⟩ = some (.int .i64 xs[d].ctors[k].idx)) → Below U.heap.size U U' → wr.heap.size ≤ U.heap.size → (U'.cell? ⟨w.heap.size, 0, none⟩ = some (.int .i64 (d : Int)) ∧ U'.cell? ⟨w.heap.size, 1, none⟩ = some (.int .i64 t2) ∧ U'.cell? ⟨b, off + d * 2 + 1, none⟩ = some (.slice (some ⟨b2, off2, none⟩) xs[d].ctors.length cap1) ∧ U'.cell? ⟨b2, off2 + k * 3, none⟩ = some (.string xs[d].ctors[k].name) ∧ U'.cell? ⟨b2, off2 + k * 3 + 1, none⟩ = some (.slice A3 xs[d].ctors[k].args.length cap3) ∧ U'.cell? ⟨b2, off2 + k * 3 + 2, none⟩ = some (.int .i64 xs[d].ctors[k].idx)) := fun U U' h hUU hU => ⟨(hUU.cell (Nat.lt_of_lt_of_le (KT.out.lt) hU)).trans h.1, (hUU.cell (Nat.lt_of_lt_of_le (KT.out.lt) hU)).trans h.2.1, (hUU.cell (Nat.lt_of_lt_of_le (hb) hU)).trans h.2.2.1, (hUU.cell (Nat.lt_of_lt_of_le (hb3) hU)).trans h.2.2.2.1, (hUU.cell (Nat.lt_of_lt_of_le (hb3) hU)).trans h.2.2.2.2.1, (hUU.cell (Nat.lt_of_lt_of_le (hb3) hU)).trans h.2.2.2.2.2⟩
        have HKeep := Lib.hid hkeep
        clear hkeep
        go_region_held3 (fun w' => w'.cell? ⟨w.heap.size, 0, none⟩ = some (.int .i64 (d : Int)) ∧ w'.cell? ⟨w.heap.size, 1, none⟩ = some (.int .i64 t2) ∧ w'.cell? ⟨b, off + d * 2 + 1, none⟩ = some (.slice (some ⟨b2, off2, none⟩) xs[d].ctors.length cap1) ∧ w'.cell? ⟨b2, off2 + k * 3, none⟩ = some (.string xs[d].ctors[k].name) ∧ w'.cell? ⟨b2, off2 + k * 3 + 1, none⟩ = some (.slice A3 xs[d].ctors[k].args.length cap3) ∧ w'.cell? ⟨b2, off2 + k * 3 + 2, none⟩ = some (.int .i64 xs[d].ctors[k].idx)) (first | assumption | (exact ⟨y0, y1, c1, k0, k1, k2⟩) | (exact HKeep.out wr.drew w' ⟨y0, y1, c1, k0, k1, k2⟩ hB' (Nat.le_refl _))) (first | (go_at_call 91; ((with_reducible refine (spec_l1Fits xs[d].ctors[k] t2 _ _ _ _).mono ?_); rintro e w' ⟨rfl, hB'⟩)))
        have hB1 := hB.drew.trans (hB'.mono hB.size)
        have HO1 : Hid (Own w' (w.heap.size + 1) 3 1 NatR (fitTo xs[d].ctors t2 k) u5 []) := Own.below (fun x cs G hk h => NatR_mono _ _ x cs G hk h) (w := wr) HO.out (below_undrew hB')
        have KT1 : Hid (Blk w' w.heap.size 33 #[.int .i64 (d : Int), .int .i64 t2]) := KT.out.same (hB'.block _ KT.out.lt)
        have hsz1 : wr.heap.size ≤ w'.heap.size := hB'.size
        have hz1' : w.heap.size + 1 ≤ wr.heap.size := KT.out.lt
        clear HKeep
        cases e1 : fitsB xs[d].ctors[k] t2 with
        | false =>
          have HF2 := Lib.hid (fitTo_no hkl e1)
          clear e1
          go_wp2
          go_roundw
          case rel => exact ⟨k + 1, by omega, by go_num, (by rw [HF2.out]; exact HO1.out), hB1, KT1⟩
          case measure => (simp [intOf] <;> omega)
        | true =>
          have HF2 := Lib.hid (fitTo_yes hkl e1)
          clear e1
          have hlen := fitTo_len xs[d].ctors t2 k
          go_wp2_with (at_builtin; refine Halt.mk ?_)
          refine Halt.of (wpList_push1 (P := Tryz.prog) rfl _ _ 104 rfl i0 _ 8 Tryz.underlying104 HI.out HZ0.out HZ1.out HZ2.out rfl Nat.zero_lt_one NatR_len NatR_mono (by rfl) HO1.out (k : Int) 3 [.int .i64 (k : Int)] [] _ (by rfl) (by simp) (by simp [Value.oneCell']) ⟨rfl, rfl⟩ (Under.nil _) (fun _ _ h => by cases h) (by have := HL.out; unfold maxLen; omega) (by have := HL.out; omega) (Nat.le_trans hz1' hsz1) ?_)
          intro g cp w3 hown3 hgr3 hat3
          have hrow := HO1.out.row
          have hB3 : Below w.heap.size w w3 := (hB1.alloc hB1.size _).grown hgr3 (by have := hB1.size; simp; omega) (fun g hg => by have := hrow g (mem_rowOf.2 hg); omega)
          have HO3 := Lib.hid hown3
          have KT3 : Hid (Blk w3 w.heap.size 33 #[.int .i64 (d : Int), .int .i64 t2]) := (KT1.out.same (Below.heap_alloc _ _ _ KT1.out.lt)).same (hgr3.block _ (by have := KT1.out.lt; simp; omega) (fun e => by have := hrow _ (mem_rowOf.2 e.symm); omega))
          have hsz3 := hgr3.size
          clear hown3 hgr3 hat3 hrow hlen
          go_wp2
          go_roundw
          case rel => exact ⟨k + 1, by omega, by go_num, (by rw [HF2.out]; exact HO3.out), hB3, KT3⟩
          case measure => (simp [intOf] <;> omega)
      · have hfin : MadeNats w (ctorsL xs ⟨(d : Int), t2⟩) (.returned u5) wr := by
          rw [hf.out]
          have h := HO.out
          rw [show k = xs[d].ctors.length by omega] at h
          exact h.nats hB (by omega)
        have HFin := Lib.hid hfin
        clear hfin
        go_wp2
        go_ret
        exact HFin.out
end Go.Proofs.YtilndhmegaccmaaGreatDoor

namespace Go.Proofs.YtilndhmegaccmaaGreatDoor
open Go.RowKit

theorem ArrNat.at {w0 w : World} {b off n cap : Nat} {F : List Nat} {xs : List Int} (h : Arr w0 (NatR w0) xs (.slice (some ⟨b, off, none⟩) n cap) F) (hF : Under w0.heap.size F) (hB : Below w0.heap.size w0 w) (i : Nat) (hi : i < xs.length) :
    b < w.heap.size ∧ w.cell? ⟨b, off + i, none⟩ = some (.int .i64 xs[i]) := by
  obtain ⟨b', off', cs, G, e, hb, hcs, hv, hG⟩ := h.get (NatR_len _) hi
  cases e
  have hbl := hF _ hb
  have hc := hcs.same (hB.block _ hbl)
  obtain ⟨rfl, -⟩ := hv
  have := hc 0 _ rfl
  rw [Nat.mul_one] at this
  exact ⟨Nat.lt_of_lt_of_le hbl hB.size, this⟩
theorem ArrNat.below {w w' : World} {B : Nat} {vs : List Int} {x : Value} {F : List Nat} (h : Arr w (NatR w) vs x F) (hb : Below B w w') (hF : Under B F) : Arr w' (NatR w') vs x F := h.mono (.of_below hb hF) fun v _ cs G hk h => NatR_mono _ _ v cs G hk h
theorem ArrNat.kept {w w' : World} {vs : List Int} {x : Value} {F : List Nat} (h : Arr w (NatR w) vs x F) (hF : Kept F w w') : Arr w' (NatR w') vs x F := h.mono hF fun v _ cs G hk h => NatR_mono _ _ v cs G hk h
theorem ArrNat.drew {w : World} {vs : List Int} {x : Value} {F : List Nat} (h : Arr w (NatR w) vs x F) : Arr w.drew (NatR w.drew) vs x F := ArrNat.kept (w := w) h (fun _ _ => rfl)
end Go.Proofs.YtilndhmegaccmaaGreatDoor

namespace Go.Proofs.YtilndhmegaccmaaGreatDoor
open Go.RowKit

def hasB (xs : List Int) (n : Int) : Bool := xs.any fun x => n == x
theorem hasB_iff (xs : List Int) (n : Int) : hasB xs n = true ↔ n ∈ xs := by
  unfold hasB
  rw [List.any_eq_true]
  exact ⟨fun ⟨x, h, e⟩ => by rw [beq_iff_eq] at e; rw [e]; exact h, fun h => ⟨n, h, by simp⟩⟩

set_option maxRecDepth 100000 in
set_option maxHeartbeats 1600000 in
theorem Index_int (xs : List Int) (n r : Int) (hr : FirstAt (fun x => n == x) xs r) (w : World) (x : Value) (F : List Nat) (hx : Arr w (NatR w) xs x F) (hf : Under w.heap.size F) :
    Calls Tryz.prog 86 #[x, .int .i64 n] w fun e w' => e = .returned (.int .i64 r) ∧ Below w.heap.size w w' := by
  obtain ⟨A, cap, rfl, hc1, hc2⟩ := hx.form
  have HX := Lib.hid hx
  have HF := Lib.hid hf
  have HR := Lib.hid hr
  clear hx hf hr
  go_enter Tryz.func86, Tryz.ntmps86
  go_wp2
  go_loopw [8] (fun i wr => ∃ k : Nat, k ≤ xs.length ∧ i = .int .i64 k ∧ Hid (∀ j (hj : j < xs.length), j < k → (n == xs[j]) = false) ∧ Below w.heap.size w wr) (fun i _ => xs.length - (intOf i).toNat)
  case atStart => exact ⟨0, Nat.zero_le _, rfl, fun j hj h => by omega, Below.refl _ _⟩
  case round =>
    obtain ⟨k, hk, rfl, HT, hB⟩ := hrel
    by_cases hlt : k < xs.length
    · have g1 : (0 : Int) ≤ (k : Int) := by omega
      have g2 : (k : Int) < (xs.length : Int) := by omega
      obtain ⟨b, off, rfl⟩ := HX.out.ptr (by omega)
      obtain ⟨hb, c0⟩ := ArrNat.at HX.out HF.out hB k hlt
      cases hq : (n == xs[k]) with
      | true =>
        have hf := Lib.hid (HR.out.hit hlt hq (fun j hj h => HT.out j hj h))
        go_wp2
        go_ret
        exact ⟨ret_int hf.out.symm, hB⟩
      | false =>
        have hT2 : Hid (∀ j (hj : j < xs.length), j < k + 1 → (n == xs[j]) = false) := fun j hj h => by
          rcases Nat.lt_or_ge j k with h2 | h2
          · exact HT.out j hj h2
          · obtain rfl : j = k := by omega
            exact hq
        go_wp2
        go_roundw
        case rel => exact ⟨k + 1, by omega, by go_num, hT2, hB⟩
        case measure => (simp [intOf] <;> omega)
    · have hf : Hid (r = -1) := HR.out.miss (fun j hj => HT.out j hj (by omega))
      go_wp2
      go_ret
      exact ⟨ret_int hf.out.symm, hB⟩

set_option maxRecDepth 100000 in
set_option maxHeartbeats 1600000 in
theorem impl_has (xs : List Int) (n : Int) (w : World) (x : Value) (F : List Nat) (hx : Arr w (NatR w) xs x F) (hf : Under w.heap.size F) :
    Calls Tryz.prog 68 #[x, .int .i64 n] w fun e w' => e = .returned (.bool (hasB xs n)) ∧ Below w.heap.size w w' := by
  obtain ⟨r, hr⟩ := FirstAt.ex (fun x => n == x) xs
  have hres : Hid (hasB xs n = decide (0 ≤ r)) := hr.any
  have hcall := Index_int xs n r hr w x F hx hf
  obtain ⟨A, cap, rfl, hc1, hc2⟩ := hx.form
  have HC := Lib.hid hcall
  clear hcall hr hx hf
  go_enter Tryz.func68, Tryz.ntmps68
  go_wp2_with fail
  refine HC.out.mono ?_
  rintro e w' ⟨rfl, hB'⟩
  go_wp2
  go_ret
  exact ⟨ret_bool hres.out.symm, hB'⟩
theorem any_drop {α : Type} (p : α → Bool) (l : List α) (k : Nat) (h : k < l.length) : (l.drop k).any p = (p l[k] || (l.drop (k + 1)).any p) := by
  rw [List.drop_eq_getElem_cons h]; rfl

set_option maxRecDepth 100000 in
set_option maxHeartbeats 1600000 in
theorem spec_l1Has (xs : List Int) (n : Int) (w : World) (x : Value) (F : List Nat) (hx : Arr w (NatR w) xs x F) (hf : Under w.heap.size F) :
    Calls Tryz.prog 78 #[x, .int .i64 n] w fun e w' => e = .returned (.bool (hasB xs n)) ∧ Below w.heap.size w w' := by
  obtain ⟨A, cap, rfl, hc1, hc2⟩ := hx.form
  have HX := Lib.hid hx
  have HF := Lib.hid hf
  clear hx hf
  go_enter Tryz.func78, Tryz.ntmps78
  go_wp2
  go_loopw [5] (fun i wr => ∃ k : Nat, k ≤ xs.length ∧ i = .int .i64 k ∧ Hid (hasB xs n = (xs.drop k).any fun x => n == x) ∧ Below w.heap.size w wr) (fun i _ => xs.length - (intOf i).toNat)
  case atStart => exact ⟨0, Nat.zero_le _, rfl, (show hasB xs n = hasB xs n from rfl), Below.refl _ _⟩
  case round =>
    obtain ⟨k, hk, rfl, HT, hB⟩ := hrel
    by_cases hlt : k < xs.length
    · have g1 : (0 : Int) ≤ (k : Int) := by omega
      have g2 : (k : Int) < (xs.length : Int) := by omega
      obtain ⟨b, off, rfl⟩ := HX.out.ptr (by omega)
      obtain ⟨hb, c0⟩ := ArrNat.at HX.out HF.out hB k hlt
      have hd := HT.out
      rw [any_drop _ xs k hlt] at hd
      cases hq : (xs[k] == n) with
      | true =>
        have hq2 : (n == xs[k]) = true := by rw [beq_iff_eq] at hq ⊢; exact hq.symm
        rw [hq2, Bool.true_or] at hd
        have hf := Lib.hid hd
        clear hd hq2
        go_wp2
        go_ret
        exact ⟨ret_bool hf.out.symm, hB⟩
      | false =>
        have hq2 : (n == xs[k]) = false := by rw [beq_eq_false_iff_ne] at hq ⊢; exact fun e => hq e.symm
        rw [hq2, Bool.false_or] at hd
        have HT2 := Lib.hid hd
        clear hd hq2
        go_wp2
        go_roundw
        case rel => exact ⟨k + 1, by omega, by go_num, HT2, hB⟩
        case measure => (simp [intOf] <;> omega)
    · have hd := HT.out
      rw [List.drop_of_length_le (by omega)] at hd
      have hf := Lib.hid hd
      clear hd
      go_wp2
      go_ret
      exact ⟨ret_bool hf.out.symm, hB⟩
end Go.Proofs.YtilndhmegaccmaaGreatDoor

namespace Go.Proofs.YtilndhmegaccmaaGreatDoor
open Go.RowKit

def ctorAt (xs : List Dt) (t : Ty) (k : Int) : Option Kt := (ctorsAt xs t.d)[k.toNat]?
/-- the types of the arguments of constructor k for type t -/
def argsOf (xs : List Dt) (t : Ty) (k : Int) : List Ty := match ctorAt xs t k with | some c => argsL c t.i | none => []
def argTypesL (xs : List Dt) (t : Ty) (k : Int) : List Ty := if hasB (ctorsOfL xs t) k = true then argsOf xs t k else []
theorem argsOf_get {xs : List Dt} {d k : Nat} {i : Int} (hd : d < xs.length) (hk : k < xs[d].ctors.length) : argsOf xs ⟨(d : Int), i⟩ (k : Int) = argsL xs[d].ctors[k] i := by
  unfold argsOf ctorAt
  simp only
  rw [ctorsAt_get hd, Int.toNat_natCast, List.getElem?_eq_getElem hk]
theorem mem_fitTo {cs : List Kt} {i : Int} {m : Nat} {n : Int} (h : n ∈ fitTo cs i m) : ∃ k : Nat, n = (k : Int) ∧ k < m := by
  unfold fitTo at h
  obtain ⟨k, hk, rfl⟩ := List.mem_map.1 h
  have := (List.mem_filter.1 hk).1
  exact ⟨k, rfl, by simpa using this⟩
theorem mem_ctorsL {xs : List Dt} {t : Ty} {n : Int} (ht : InWorld xs.length t) (h : n ∈ ctorsL xs t) : ∃ d k : Nat, t.d = (d : Int) ∧ n = (k : Int) ∧ ∃ hd : d < xs.length, k < xs[d].ctors.length := by
  rcases ht with hd | ⟨d, hd, hdl⟩
  · rw [ctorsL_int hd] at h; cases h
  · obtain ⟨t1, t2⟩ := t
    simp only at hd
    subst hd
    rw [ctorsL_data hdl] at h
    obtain ⟨k, rfl, hk⟩ := mem_fitTo h
    exact ⟨d, k, rfl, rfl, hdl, hk⟩
theorem argTypesL_no {xs : List Dt} {t : Ty} {k : Int} (h : hasB (ctorsOfL xs t) k = false) : argTypesL xs t k = [] := if_neg (by simp [h])
theorem argTypesL_yes {xs : List Dt} {t : Ty} {k : Int} (h : hasB (ctorsOfL xs t) k = true) : argTypesL xs t k = argsOf xs t k ∧ WorldOK xs ∧ ∃ (d m : Nat) (hd : d < xs.length), t.d = (d : Int) ∧ k = (m : Int) ∧ m < xs[d].ctors.length := by
  refine ⟨if_pos h, ?_⟩
  rw [hasB_iff] at h
  unfold ctorsOfL at h
  split at h
  · rename_i hv
    obtain ⟨hw, hto⟩ := typeValid_split hv
    obtain ⟨d, m, h1, h2, hd, hm⟩ := mem_ctorsL (typeOkB_in hto) h
    exact ⟨hw, d, m, hd, h1, h2, hm⟩
  · cases h
theorem argTypesL_len (xs : List Dt) (t : Ty) (k : Int) : (argTypesL xs t k).length ≤ 3 := by
  cases h : hasB (ctorsOfL xs t) k with
  | false => rw [argTypesL_no h]; simp
  | true =>
    obtain ⟨e, hw, d, m, hd, h1, h2, hm⟩ := argTypesL_yes h
    obtain ⟨t1, t2⟩ := t
    simp only at h1
    subst h1 h2
    rw [e, argsOf_get hd hm, argsL_len]
    exact (hw.ctor hd hm).args

end Go.Proofs.YtilndhmegaccmaaGreatDoor

namespace Go.Proofs.YtilndhmegaccmaaGreatDoor
open Go.RowKit

def ctorN (xs : List Dt) (t : Ty) (k : Int) : List UInt8 := match ctorAt xs t k with | some c => tl c.name | none => []
theorem ctorN_get {xs : List Dt} {d k : Nat} {i : Int} (hd : d < xs.length) (hk : k < xs[d].ctors.length) : ctorN xs ⟨(d : Int), i⟩ (k : Int) = tl xs[d].ctors[k].name := by
  unfold ctorN ctorAt
  simp only
  rw [ctorsAt_get hd, Int.toNat_natCast, List.getElem?_eq_getElem hk]
def lst : Bool → List (List UInt8) → List UInt8
  | _, [] => []
  | b, a :: l => (if b = true then 40 else 44) :: (a ++ lst false l)
def closeL (n : Nat) : List UInt8 := if 0 < n then [41] else []
theorem lst_join (a : List UInt8) (l : List (List UInt8)) : lst true (a :: l) = 40 :: Lib.join (a :: l) [44] := by
  have h := join_of id (fun b l => if b = true then (match l with | [] => [] | x :: l => x ++ lst false l) else lst false l) 44 (fun b => by cases b <;> rfl) (fun x l => rfl) (fun x l => rfl) (a :: l)
  rw [List.map_id] at h
  rw [h]; rfl
theorem listedT_lst (l : List (List UInt8)) : listedT (l.map bs) = lst true l ++ closeL l.length := by
  unfold listedT closeL
  cases hl : l with
  | nil => rfl
  | cons a l =>
    have e : ((a :: l).map bs).map tl = a :: l := by rw [List.map_map]; exact (List.map_congr_left (fun x _ => tl_bs x)).trans (List.map_id _)
    rw [if_neg (by simp), if_pos (by simp), e, lst_join]
    rfl
theorem closeL_len (n : Nat) : (closeL n).length ≤ 1 := by unfold closeL; split <;> simp
end Go.Proofs.YtilndhmegaccmaaGreatDoor

namespace Go.Proofs.YtilndhmegaccmaaGreatDoor
open Go.RowKit

structure Vt where
  var : Int
  ty : Ty
def VtR (_ : World) (x : Vt) (cs : List Value) (F : List Nat) : Prop := cs = [.int .i64 x.var, .int .i64 x.ty.d, .int .i64 x.ty.i] ∧ F = []
theorem VtR_len (w : World) (x : Vt) (cs : List Value) (F : List Nat) (h : VtR w x cs F) : cs.length = 3 := by rw [h.1]; rfl
theorem VtR_mono (w w' : World) (x : Vt) (cs : List Value) (F : List Nat) (_ : Kept F w w') (h : VtR w x cs F) : VtR w' x cs F := h
theorem VtR.mono {w w' : World} (x : Vt) (cs : List Value) (F : List Nat) (_ : Kept F w w') (h : VtR w x cs F) : VtR w' x cs F := h
theorem VtR_nilF (w : World) (x : Vt) (cs : List Value) (F : List Nat) (h : VtR w x cs F) : F = [] := h.2
def Vt.same (a b : Vt) : Bool := a.var == b.var && (a.ty.d == b.ty.d && a.ty.i == b.ty.i)
theorem Vt.same_iff (a b : Vt) : Vt.same a b = true ↔ a = b := by
  obtain ⟨v, d, i⟩ := a
  obtain ⟨v', d', i'⟩ := b
  simp [Vt.same]
end Go.Proofs.YtilndhmegaccmaaGreatDoor

namespace Go.Proofs.YtilndhmegaccmaaGreatDoor
open Go.RowKit

def namedB (p : P) : Bool := p.op == 2 || p.op == 6
def kindB (xs : List Dt) (t : Ty) (p : P) : Bool := if p.op = 3 then t.d == -1 && (decide (0 ≤ p.n) && (decide (p.n ≤ p.m) && decide (p.m ≤ 9))) else if p.op = 4 then hasB (ctorsL xs t) p.ct else (p.op == 1 || (p.op == 2 || (p.op == 5 || p.op == 6)))
/-- the fields of a node are right, apart from its kids -/
def ownB (xs : List Dt) (t : Ty) (p : P) : Bool := (if namedB p = true then decide (0 ≤ p.va) && decide (p.va ≤ 5) else p.va == 0) && ((p.op == 3 || (p.n == 0 && p.m == 0)) && ((p.op == 4 || p.ct == 0) && kindB xs t p))
def kidsN (op : Int) : Nat := if op = 5 then 2 else if op = 6 then 1 else 0
/-- the types of the kids -/
def typesP (xs : List Dt) (t : Ty) (p : P) : List Ty := if p.op = 4 then argsOf xs t p.ct else List.replicate (kidsN p.op) t
def shapeB (xs : List Dt) : Nat → Ty → P → Bool
  | 0, _, _ => false
  | d + 1, t, p => ownB xs t p && (p.ks.length == (typesP xs t p).length && ((typesP xs t p).zip p.ks).all fun x => shapeB xs d x.1 x.2)
def nodesP (p : P) : Nat := p.size + 1
/-- the kids whose variables count: of an alternative the first alone -/
def kidsV (xs : List Dt) (t : Ty) (p : P) : List (Ty × P) := ((typesP xs t p).zip p.ks).take (if p.op = 5 then 1 else p.ks.length)
/-- the variables of a pattern -/
def varsN (xs : List Dt) : Nat → Ty → P → List Vt
  | 0, _, _ => []
  | d + 1, t, p => (if namedB p = true then [⟨p.va, t⟩] else []) ++ (kidsV xs t p).flatMap fun x => varsN xs d x.1 x.2
def dupFree (l : List Vt) : Bool := decide ((l.map Vt.var).Nodup)
/-- the reference's test of two lists -/
def alikeB (a b : List Vt) : Bool := (a.all fun v => match b.find? fun u => u.var == v.var with | some u => (u.ty.d == v.ty.d && u.ty.i == v.ty.i) | none => false) && a.length == b.length
/-- the program's test of two lists -/
def sameV (a b : List Vt) : Bool := a.length == b.length && a.all fun v => b.any fun u => Vt.same u v
def linB (xs : List Dt) : Nat → Ty → P → Bool
  | 0, _, _ => true
  | d + 1, t, p => (((typesP xs t p).zip p.ks).all fun x => linB xs d x.1 x.2) && (if p.op = 5 then (match p.ks with | [k0, k1] => alikeB (varsN xs d t k0) (varsN xs d t k1) | _ => true) else dupFree (varsN xs (d + 1) t p))
def patOkB (xs : List Dt) (t : Ty) (p : P) : Bool := shapeB xs 10 t p && (decide (nodesP p ≤ 60) && linB xs 10 t p)

theorem typesP_or {xs : List Dt} {t : Ty} {p : P} (h : p.op = 5) : typesP xs t p = [t, t] := by
  unfold typesP kidsN
  rw [if_neg (by omega), if_pos h]; rfl
theorem typesP_as {xs : List Dt} {t : Ty} {p : P} (h : p.op = 6) : typesP xs t p = [t] := by
  unfold typesP kidsN
  rw [if_neg (by omega), if_neg (by omega), if_pos h]; rfl
theorem kids_two {α : Type} {l : List α} (h : l.length = 2) : ∃ a b, l = [a, b] := by
  match l, h with
  | [a, b], _ => exact ⟨a, b, rfl⟩
/-- where the shape is right and each variable stands once, the variables are apart -/
theorem lin_dup (xs : List Dt) : ∀ (d : Nat) (t : Ty) (p : P), shapeB xs d t p = true → linB xs d t p = true → dupFree (varsN xs d t p) = true
  | 0, _, _, h, _ => by simp [shapeB] at h
  | d + 1, t, p, hs, hl => by
    simp only [shapeB, linB, Bool.and_eq_true] at hs hl
    by_cases h5 : p.op = 5
    · have hty := typesP_or (xs := xs) (t := t) h5
      obtain ⟨h1, h2, h3⟩ := hs
      rw [hty] at h2 h3
      obtain ⟨k0, k1, hk⟩ := kids_two (by simpa using h2)
      have hv : varsN xs (d + 1) t p = varsN xs d t k0 := by
        have e : varsN xs (d + 1) t p = (if namedB p = true then [⟨p.va, t⟩] else []) ++ (kidsV xs t p).flatMap fun x => varsN xs d x.1 x.2 := rfl
        have kv : kidsV xs t p = [(t, k0)] := by unfold kidsV; rw [hty, hk, h5]; rfl
        have nb : namedB p = false := by unfold namedB; rw [h5]; rfl
        rw [e, kv, nb]
        simp
      rw [hv]
      rw [hk] at h3
      have hl1 := hl.1
      rw [hty, hk] at hl1
      simp only [List.zip_cons_cons, List.zip_nil_right, List.all_cons, List.all_nil, Bool.and_true, Bool.and_eq_true] at h3 hl1
      exact lin_dup xs d t k0 h3.1 hl1.1
    · have hl2 := hl.2
      rwa [if_neg h5] at hl2
theorem find_of_nodup : ∀ {b : List Vt} {u : Vt}, (b.map Vt.var).Nodup → u ∈ b → b.find? (fun x => x.var == u.var) = some u
  | [], _, _, h => by cases h
  | x :: b, u, hn, h => by
    rw [List.map_cons, List.nodup_cons] at hn
    rcases List.mem_cons.1 h with rfl | h
    · simp
    · have hx : (x.var == u.var) = false := by
        rw [beq_eq_false_iff_ne]
        intro e
        exact hn.1 (by rw [e]; exact List.mem_map_of_mem h)
      rw [List.find?_cons, hx]
      exact find_of_nodup hn.2 h
theorem alike_same {a b : List Vt} (hb : dupFree b = true) : alikeB a b = sameV a b := by
  have hn : (b.map Vt.var).Nodup := of_decide_eq_true hb
  have key : ∀ v : Vt, (match b.find? fun u => u.var == v.var with | some u => (u.ty.d == v.ty.d && u.ty.i == v.ty.i) | none => false) = b.any fun u => Vt.same u v := fun v => by
    rw [Bool.eq_iff_iff, List.any_eq_true]
    constructor
    · intro h
      split at h
      · rename_i u hu
        have hm := List.mem_of_find?_eq_some hu
        have hv := List.find?_some hu
        exact ⟨u, hm, by
          unfold Vt.same
          rw [hv]
          simpa using h⟩
      · cases h
    · rintro ⟨u, hm, hu⟩
      obtain rfl := (Vt.same_iff u v).1 hu
      rw [find_of_nodup hn hm]
      simp
  unfold alikeB sameV
  rw [Bool.and_comm]
  congr 1
  exact congrArg (fun f => a.all f) (funext key)
end Go.Proofs.YtilndhmegaccmaaGreatDoor

namespace Go.Proofs.YtilndhmegaccmaaGreatDoor
open Go.RowKit

def slotOf (t : Ty) : Nat := t.d.toNat * 4 + t.i.toNat
def tyAt (s : Nat) : Ty := ⟨((s / 4 : Nat) : Int), ((s % 4 : Nat) : Int)⟩
/-- the depth that a table has for a type, 0 for none -/
def depthIn (tab : List Int) (t : Ty) : Int := if t.d = -1 then 1 else tab.getD (slotOf t) 0
def mostGo (tab : List Int) : Int → List Ty → Int
  | m, [] => m + 1
  | m, a :: ls => if depthIn tab a = 0 then 0 else mostGo tab (max m (depthIn tab a)) ls
def mostIn (xs : List Dt) (tab : List Int) (t : Ty) (k : Int) : Int := mostGo tab 0 (argsOf xs t k)
/-- one constructor of slot s looked at -/
def better (tab : List Int) (s : Nat) (n : Int) : Bool := decide (0 < n) && (decide (tab.getD s 0 = 0) || decide (n < tab.getD s 0))
def putIf (tab : List Int) (s : Nat) (n : Int) : List Int := if better tab s n = true then tab.set s n else tab
def slotGo (xs : List Dt) (s : Nat) (tab : List Int) (ks : List Int) : List Int := ks.foldl (fun tab k => putIf tab s (mostIn xs tab (tyAt s) k)) tab
def sweepTo (xs : List Dt) (tab : List Int) (s : Nat) : List Int := (List.range s).foldl (fun tab s => slotGo xs s tab (ctorsL xs (tyAt s))) tab
def sweep (xs : List Dt) (tab : List Int) : List Int := sweepTo xs tab (xs.length * 4)
def sweeps (xs : List Dt) : Nat → List Int
  | 0 => List.replicate (xs.length * 4) 0
  | n + 1 => sweep xs (sweeps xs n)
def tableL (xs : List Dt) : List Int := sweeps xs (xs.length * 4 + 1)

theorem putIf_length (tab : List Int) (s : Nat) (n : Int) : (putIf tab s n).length = tab.length := by unfold putIf; split <;> simp
theorem slotGo_nil (xs : List Dt) (s : Nat) (tab : List Int) : slotGo xs s tab [] = tab := rfl
theorem slotGo_cons (xs : List Dt) (s : Nat) (tab : List Int) (k : Int) (ks : List Int) : slotGo xs s tab (k :: ks) = slotGo xs s (putIf tab s (mostIn xs tab (tyAt s) k)) ks := rfl
theorem slotGo_snoc (xs : List Dt) (s : Nat) (tab : List Int) (ks : List Int) (k : Int) : slotGo xs s tab (ks ++ [k]) = putIf (slotGo xs s tab ks) s (mostIn xs (slotGo xs s tab ks) (tyAt s) k) := by
  unfold slotGo; rw [List.foldl_append]; rfl
theorem slotGo_length (xs : List Dt) (s : Nat) : ∀ (ks : List Int) (tab : List Int), (slotGo xs s tab ks).length = tab.length
  | [], tab => rfl
  | k :: ks, tab => by rw [slotGo_cons, slotGo_length xs s ks, putIf_length]
theorem sweepTo_zero (xs : List Dt) (tab : List Int) : sweepTo xs tab 0 = tab := rfl
theorem sweepTo_succ (xs : List Dt) (tab : List Int) (s : Nat) : sweepTo xs tab (s + 1) = slotGo xs s (sweepTo xs tab s) (ctorsL xs (tyAt s)) := by
  unfold sweepTo; rw [List.range_succ, List.foldl_append]; rfl
theorem sweepTo_length (xs : List Dt) (tab : List Int) : ∀ s, (sweepTo xs tab s).length = tab.length
  | 0 => rfl
  | s + 1 => by rw [sweepTo_succ, slotGo_length, sweepTo_length xs tab s]
theorem sweeps_length (xs : List Dt) : ∀ n, (sweeps xs n).length = xs.length * 4
  | 0 => by simp [sweeps]
  | n + 1 => by show (sweepTo xs _ _).length = _; rw [sweepTo_length, sweeps_length xs n]

/-! ### Types with a value of a depth -/
def hasD (xs : List Dt) : Nat → Ty → Prop
  | 0, _ => False
  | n + 1, t => t.d = -1 ∨ ∃ k ∈ ctorsL xs t, ∀ a ∈ argsOf xs t k, hasD xs n a
theorem hasD_mono {xs : List Dt} : ∀ {n : Nat} {t : Ty}, hasD xs n t → hasD xs (n + 1) t
  | 0, _, h => h.elim
  | n + 1, t, h => by
    rcases h with h | ⟨k, hk, h⟩
    · exact .inl h
    · exact .inr ⟨k, hk, fun a ha => hasD_mono (h a ha)⟩
theorem hasD_le {xs : List Dt} {n m : Nat} {t : Ty} (h : hasD xs n t) (hm : n ≤ m) : hasD xs m t := by
  induction hm with
  | refl => exact h
  | step _ ih => exact hasD_mono ih
/-- a type of values in the world -/
def TyIn (n : Nat) (t : Ty) : Prop := t.d = -1 ∨ ∃ d i : Nat, t = ⟨(d : Int), (i : Int)⟩ ∧ d < n ∧ i < 4
theorem TyIn.inWorld {n : Nat} {t : Ty} (h : TyIn n t) : InWorld n t := by
  rcases h with h | ⟨d, i, rfl, h1, h2⟩
  · exact .inl h
  · exact .inr ⟨d, rfl, h1⟩
theorem typeOkB_tyIn {n : Nat} {t : Ty} (h : typeOkB n t = true) : TyIn n t := by
  unfold typeOkB at h
  by_cases e : t.d = -1
  · exact .inl e
  · rw [if_neg e] at h
    simp [withinB] at h
    refine .inr ⟨t.d.toNat, t.i.toNat, ?_, by omega, by omega⟩
    obtain ⟨t1, t2⟩ := t
    simp only at h ⊢
    congr 1 <;> omega
theorem slotOf_mk (d i : Nat) : slotOf ⟨(d : Int), (i : Int)⟩ = d * 4 + i := by unfold slotOf; simp
theorem tyAt_mk {d i : Nat} (h : i < 4) : tyAt (d * 4 + i) = ⟨(d : Int), (i : Int)⟩ := by
  unfold tyAt
  rw [show (d * 4 + i) / 4 = d by omega, show (d * 4 + i) % 4 = i by omega]
theorem TyIn.slot {n : Nat} {t : Ty} (h : TyIn n t) (hd : ¬ t.d = -1) : slotOf t < n * 4 ∧ tyAt (slotOf t) = t := by
  rcases h with h | ⟨d, i, rfl, h1, h2⟩
  · exact absurd h hd
  · rw [slotOf_mk, tyAt_mk h2]
    exact ⟨by omega, rfl⟩
theorem tyAt_in {n s : Nat} (h : s < n * 4) : TyIn n (tyAt s) := .inr ⟨s / 4, s % 4, rfl, by omega, by omega⟩
theorem tyAt_slot (s : Nat) : slotOf (tyAt s) = s := by
  unfold tyAt
  rw [slotOf_mk]
  omega
theorem tyAt_not (s : Nat) : ¬ (tyAt s).d = -1 := by unfold tyAt; simp only; omega
theorem argTy_in {n : Nat} {c : Kt} (hc : KtOk n c) {i : Int} (h0 : 0 ≤ i) (h3 : i ≤ 3) {a : Ty} (ha : a ∈ argsL c i) : TyIn n a := by
  unfold argsL at ha
  obtain ⟨b, hb, rfl⟩ := List.mem_map.1 ha
  have hok := hc.all b hb
  have hr : 0 ≤ resIdx c i ∧ resIdx c i ≤ 3 := by
    unfold resIdx
    split
    · exact ⟨h0, h3⟩
    · exact ⟨hc.lo, hc.hi⟩
  unfold argOkB at hok
  cases q : (b.i == -1) with
  | true =>
    rw [argTy_yes q]
    by_cases e : b.d = -1
    · exact .inl e
    · rw [if_neg e] at hok
      simp [withinB] at hok
      refine .inr ⟨b.d.toNat, (resIdx c i).toNat, ?_, by omega, by omega⟩
      congr 1 <;> omega
  | false =>
    rw [argTy_no q]
    have q' : ¬ b.i = -1 := by simpa using q
    by_cases e : b.d = -1
    · exact .inl e
    · rw [if_neg e] at hok
      simp [withinB] at hok
      refine .inr ⟨b.d.toNat, b.i.toNat, ?_, by omega, by omega⟩
      obtain ⟨b1, b2⟩ := b
      simp only at hok q' ⊢
      congr 1 <;> omega
theorem argsOf_in {xs : List Dt} (hw : WorldOK xs) {t : Ty} (ht : TyIn xs.length t) {k : Int} (hk : k ∈ ctorsL xs t) {a : Ty} (ha : a ∈ argsOf xs t k) : TyIn xs.length a := by
  rcases ht with h | ⟨d, i, rfl, h1, h2⟩
  · rw [ctorsL_int h] at hk; cases hk
  · obtain ⟨d', m, e1, rfl, hd, hm⟩ := mem_ctorsL (.inr ⟨d, rfl, h1⟩) hk
    obtain rfl : d = d' := Int.ofNat.inj e1
    rw [argsOf_get hd hm] at ha
    exact argTy_in (hw.ctor hd hm) (by omega) (by omega) ha

/-! ### What an entry says -/
theorem mostGo_zero {tab : List Int} : ∀ {ls : List Ty} {m : Int}, 0 ≤ m → mostGo tab m ls = 0 → ∃ a ∈ ls, depthIn tab a = 0
  | [], m, h0, h => by simp only [mostGo] at h; omega
  | a :: ls, m, h0, h => by
    simp only [mostGo] at h
    split at h
    · rename_i e; exact ⟨a, by simp, e⟩
    · obtain ⟨b, hb, e⟩ := mostGo_zero (by omega) h
      exact ⟨b, by simp [hb], e⟩
theorem mostGo_pos {tab : List Int} (hp : ∀ a, 0 ≤ depthIn tab a) : ∀ {ls : List Ty} {m : Int}, 0 ≤ m → (∀ a ∈ ls, depthIn tab a ≠ 0) → m < mostGo tab m ls ∧ ∀ a ∈ ls, depthIn tab a < mostGo tab m ls
  | [], m, h0, _ => by simp only [mostGo]; exact ⟨by omega, fun a h => by cases h⟩
  | a :: ls, m, h0, h => by
    simp only [mostGo]
    rw [if_neg (h a (by simp))]
    have h1 := mostGo_pos hp (m := max m (depthIn tab a)) (ls := ls) (by omega) fun b hb => h b (by simp [hb])
    refine ⟨by omega, fun b hb => ?_⟩
    rcases List.mem_cons.1 hb with rfl | hb
    · omega
    · exact h1.2 b hb
theorem mostGo_ne {tab : List Int} : ∀ {ls : List Ty} {m : Int}, mostGo tab m ls ≠ 0 → ∀ a ∈ ls, depthIn tab a ≠ 0
  | [], _, _, a, h => by cases h
  | a :: ls, m, h, b, hb => by
    simp only [mostGo] at h
    split at h
    · exact absurd rfl h
    · rename_i e
      rcases List.mem_cons.1 hb with rfl | hb
      · exact e
      · exact mostGo_ne h b hb
theorem mostGo_le {tab : List Int} {N : Int} : ∀ {ls : List Ty} {m : Int}, m ≤ N → (∀ a ∈ ls, depthIn tab a ≠ 0 ∧ depthIn tab a ≤ N) → mostGo tab m ls ≤ N + 1
  | [], m, h0, _ => by simp only [mostGo]; omega
  | a :: ls, m, h0, h => by
    simp only [mostGo]
    rw [if_neg (h a (by simp)).1]
    exact mostGo_le (by have := (h a (by simp)).2; omega) fun b hb => h b (by simp [hb])

/-- a table that is right so far: every entry that is not 0 is the depth of some value -/
structure Sound (xs : List Dt) (tab : List Int) : Prop where
  pos : ∀ s, 0 ≤ tab.getD s 0
  has : ∀ s, s < xs.length * 4 → tab.getD s 0 ≠ 0 → hasD xs (tab.getD s 0).toNat (tyAt s)
  len : tab.length = xs.length * 4
theorem Sound.dpos {xs : List Dt} {tab : List Int} (h : Sound xs tab) (a : Ty) : 0 ≤ depthIn tab a := by
  unfold depthIn; split
  · omega
  · exact h.pos _
theorem Sound.dhas {xs : List Dt} {tab : List Int} (h : Sound xs tab) {a : Ty} (ha : TyIn xs.length a) (hn : depthIn tab a ≠ 0) : hasD xs (depthIn tab a).toNat a := by
  unfold depthIn at hn ⊢
  split
  · rename_i e; exact .inl e
  · rename_i e
    rw [if_neg e] at hn
    obtain ⟨h1, h2⟩ := ha.slot e
    have := h.has _ h1 hn
    rwa [h2] at this
theorem getD_set (tab : List Int) (s r : Nat) (n : Int) (hs : s < tab.length) : (tab.set s n).getD r 0 = if r = s then n else tab.getD r 0 := by
  unfold List.getD
  by_cases h : r = s
  · subst h; rw [if_pos rfl, List.getElem?_set_self hs]; rfl
  · rw [if_neg h, List.getElem?_set_ne (fun e => h e.symm)]
theorem better_iff {tab : List Int} {s : Nat} {n : Int} : better tab s n = true ↔ 0 < n ∧ (tab.getD s 0 = 0 ∨ n < tab.getD s 0) := by
  unfold better; simp
theorem Sound.put {xs : List Dt} (hw : WorldOK xs) {tab : List Int} (h : Sound xs tab) {s : Nat} (hs : s < xs.length * 4) {k : Int} (hk : k ∈ ctorsL xs (tyAt s)) : Sound xs (putIf tab s (mostIn xs tab (tyAt s) k)) := by
  unfold putIf
  split
  · rename_i hb
    obtain ⟨h1, h2⟩ := better_iff.1 hb
    have hs' : s < tab.length := by rw [h.len]; exact hs
    refine ⟨fun r => ?_, fun r hr hne => ?_, by rw [List.length_set]; exact h.len⟩
    · rw [getD_set _ _ _ _ hs']; split
      · omega
      · exact h.pos r
    · rw [getD_set _ _ _ _ hs'] at hne ⊢
      split at hne
      · rename_i e
        subst e
        rw [if_pos rfl]
        have hne2 : mostGo tab 0 (argsOf xs (tyAt r) k) ≠ 0 := by unfold mostIn at h1; omega
        have hd := mostGo_ne hne2
        have hp := mostGo_pos h.dpos (m := 0) (by omega) hd
        obtain ⟨n, hn⟩ : ∃ n : Nat, (mostIn xs tab (tyAt r) k).toNat = n + 1 := ⟨(mostIn xs tab (tyAt r) k).toNat - 1, by omega⟩
        rw [hn]
        refine .inr ⟨k, hk, fun a ha => ?_⟩
        have hai := argsOf_in hw (tyAt_in hr) hk ha
        refine hasD_le (h.dhas hai (hd a ha)) ?_
        have := hp.2 a ha
        unfold mostIn at hn
        omega
      · rename_i e
        rw [if_neg e]
        exact h.has r hr hne
  · exact h
theorem Sound.slot {xs : List Dt} (hw : WorldOK xs) {s : Nat} (hs : s < xs.length * 4) : ∀ {ks : List Int} {tab : List Int}, (∀ k ∈ ks, k ∈ ctorsL xs (tyAt s)) → Sound xs tab → Sound xs (slotGo xs s tab ks)
  | [], tab, _, h => h
  | k :: ks, tab, hk, h => by
    rw [slotGo_cons]
    exact Sound.slot hw hs (fun x hx => hk x (by simp [hx])) (h.put hw hs (hk k (by simp)))
theorem Sound.to {xs : List Dt} (hw : WorldOK xs) {tab : List Int} (h : Sound xs tab) : ∀ {s : Nat}, s ≤ xs.length * 4 → Sound xs (sweepTo xs tab s)
  | 0, _ => h
  | s + 1, hs => by rw [sweepTo_succ]; exact Sound.slot hw (by omega) (fun k hk => hk) (Sound.to hw h (by omega))
theorem sound_sweeps {xs : List Dt} (hw : WorldOK xs) : ∀ n, Sound xs (sweeps xs n)
  | 0 => ⟨fun s => by simp only [sweeps, List.getD]; rcases Nat.lt_or_ge s (xs.length * 4) with h | h <;> simp [h], fun s hs hn => by simp [sweeps, List.getD, hs] at hn, by simp [sweeps]⟩
  | n + 1 => (sound_sweeps hw n).to hw (Nat.le_refl _)

/-! ### Entries become no worse -/
def Le (t t' : List Int) : Prop := ∀ s, t.getD s 0 ≠ 0 → t'.getD s 0 ≠ 0 ∧ t'.getD s 0 ≤ t.getD s 0
theorem Le.refl (t : List Int) : Le t t := fun s h => ⟨h, Int.le_refl _⟩
theorem Le.trans {a b c : List Int} (h : Le a b) (k : Le b c) : Le a c := fun s hs => ⟨(k s (h s hs).1).1, Int.le_trans (k s (h s hs).1).2 (h s hs).2⟩
theorem le_put (tab : List Int) (s : Nat) (hs : s < tab.length) (n : Int) : Le tab (putIf tab s n) := by
  unfold putIf
  split
  · rename_i hb
    obtain ⟨h1, h2⟩ := better_iff.1 hb
    intro r hr
    rw [getD_set _ _ _ _ hs]
    split
    · rename_i e; subst e; exact ⟨by omega, by omega⟩
    · exact ⟨hr, Int.le_refl _⟩
  · exact Le.refl _
theorem le_slot (xs : List Dt) (s : Nat) : ∀ (ks : List Int) (tab : List Int), s < tab.length → Le tab (slotGo xs s tab ks)
  | [], tab, _ => Le.refl _
  | k :: ks, tab, hs => by
    rw [slotGo_cons]
    exact (le_put tab s hs _).trans (le_slot xs s ks _ (by rw [putIf_length]; exact hs))
theorem le_to (xs : List Dt) (tab : List Int) : ∀ (s : Nat), s ≤ tab.length → Le tab (sweepTo xs tab s)
  | 0, _ => Le.refl _
  | s + 1, hs => by rw [sweepTo_succ]; exact (le_to xs tab s (by omega)).trans (le_slot xs s _ _ (by rw [sweepTo_length]; omega))
theorem le_step (xs : List Dt) (tab : List Int) (r : Nat) : ∀ (s : Nat), r ≤ s → s ≤ tab.length → Le (sweepTo xs tab r) (sweepTo xs tab s) := by
  intro s hr
  induction hr with
  | refl => intro _; exact Le.refl _
  | step hr ih => intro hs; rw [sweepTo_succ]; exact (ih (by omega)).trans (le_slot xs _ _ _ (by rw [sweepTo_length]; omega))

/-- every type with a value of depth n at most has an entry of n at most -/
def Done (xs : List Dt) (tab : List Int) (n : Nat) : Prop := ∀ s, s < xs.length * 4 → hasD xs n (tyAt s) → tab.getD s 0 ≠ 0 ∧ tab.getD s 0 ≤ n
theorem Done.le {xs : List Dt} {t t' : List Int} {n : Nat} (h : Done xs t n) (hl : Le t t') : Done xs t' n := fun s hs hh => ⟨(hl s (h s hs hh).1).1, Int.le_trans (hl s (h s hs hh).1).2 (h s hs hh).2⟩
theorem put_done {tab : List Int} {s : Nat} (hs : s < tab.length) (hp : 0 ≤ tab.getD s 0) {n : Int} (h0 : 0 < n) : (putIf tab s n).getD s 0 ≠ 0 ∧ (putIf tab s n).getD s 0 ≤ n := by
  unfold putIf
  split
  · rename_i hb
    rw [getD_set _ _ _ _ hs, if_pos rfl]; omega
  · rename_i hb
    have : ¬ (0 < n ∧ (tab.getD s 0 = 0 ∨ n < tab.getD s 0)) := fun h => hb (better_iff.2 h)
    omega
theorem slot_done {xs : List Dt} (hw : WorldOK xs) {n s : Nat} (hs : s < xs.length * 4) {k0 : Int} (ha : ∀ a ∈ argsOf xs (tyAt s) k0, hasD xs n a) : ∀ {ks : List Int} {tab : List Int}, (∀ k ∈ ks, k ∈ ctorsL xs (tyAt s)) → k0 ∈ ks → Sound xs tab → Done xs tab n → (slotGo xs s tab ks).getD s 0 ≠ 0 ∧ (slotGo xs s tab ks).getD s 0 ≤ n + 1
  | [], tab, _, h, _, _ => by cases h
  | k :: ks, tab, hks, hk, hsd, hd => by
    have hsl : s < tab.length := by rw [hsd.len]; exact hs
    rw [slotGo_cons]
    by_cases e : k0 = k
    · subst e
      have hk0 := hks k0 (by simp)
      have hall : ∀ a ∈ argsOf xs (tyAt s) k0, depthIn tab a ≠ 0 ∧ depthIn tab a ≤ n := fun a hm => by
        have hai := argsOf_in hw (tyAt_in hs) hk0 hm
        unfold depthIn
        split
        · have := ha a hm
          cases n with
          | zero => exact this.elim
          | succ n => omega
        · rename_i hne
          obtain ⟨q1, q2⟩ := hai.slot hne
          exact hd _ q1 (by rw [q2]; exact ha a hm)
      have h1 := mostGo_pos hsd.dpos (m := 0) (by omega) fun a hm => (hall a hm).1
      have h2 := mostGo_le (N := n) (m := 0) (by omega) hall
      have h3 := put_done hsl (hsd.pos s) (n := mostIn xs tab (tyAt s) k0) h1.1
      have h4 := le_slot xs s ks (putIf tab s (mostIn xs tab (tyAt s) k0)) (by rw [putIf_length]; exact hsl) s h3.1
      have h5 : mostIn xs tab (tyAt s) k0 ≤ n + 1 := h2
      exact ⟨h4.1, by omega⟩
    · have hk' : k0 ∈ ks := by
        rcases List.mem_cons.1 hk with h | h
        · exact absurd h e
        · exact h
      exact slot_done hw hs ha (fun x hx => hks x (by simp [hx])) hk' (hsd.put hw hs (hks k (by simp))) (hd.le (le_put tab s hsl _))
theorem sweep_done {xs : List Dt} (hw : WorldOK xs) {tab : List Int} {n : Nat} (hsd : Sound xs tab) (hd : Done xs tab n) : Done xs (sweep xs tab) (n + 1) := by
  intro s hs hh
  rcases hh with h | ⟨k, hk, ha⟩
  · exact absurd h (tyAt_not s)
  · have h1 := slot_done hw hs ha (fun k hk => hk) hk (hsd.to hw (by omega : s ≤ xs.length * 4)) (hd.le (le_to xs tab s (by rw [hsd.len]; omega)))
    rw [← sweepTo_succ] at h1
    have h2 := le_step xs tab (s + 1) (xs.length * 4) (by omega) (by rw [hsd.len]; omega) s h1.1
    exact ⟨h2.1, by show (sweepTo xs tab (xs.length * 4)).getD s 0 ≤ _; omega⟩
theorem done_sweeps {xs : List Dt} (hw : WorldOK xs) : ∀ n, Done xs (sweeps xs n) n
  | 0 => fun s _ h => h.elim
  | n + 1 => sweep_done hw (sound_sweeps hw n) (done_sweeps hw n)
theorem le_sweeps {xs : List Dt} (n : Nat) : Le (sweeps xs n) (sweeps xs (n + 1)) := le_to xs _ _ (by rw [sweeps_length]; exact Nat.le_refl _)
theorem le_sweeps' {xs : List Dt} {n m : Nat} (h : n ≤ m) : Le (sweeps xs n) (sweeps xs m) := by
  induction h with
  | refl => exact Le.refl _
  | step _ ih => exact ih.trans (le_sweeps _)
end Go.Proofs.YtilndhmegaccmaaGreatDoor

namespace Go.Proofs.YtilndhmegaccmaaGreatDoor
open Go.RowKit
open Classical

/-- from level n on no further type gets a value -/
def Stable (xs : List Dt) (n : Nat) : Prop := ∀ s, s < xs.length * 4 → hasD xs (n + 1) (tyAt s) → hasD xs n (tyAt s)
theorem stable_step {xs : List Dt} (hw : WorldOK xs) {n : Nat} (hn : 1 ≤ n) (h : Stable xs n) : Stable xs (n + 1) := by
  intro s hs hh
  rcases hh with hh | ⟨k, hk, ha⟩
  · exact .inl hh
  · refine .inr ⟨k, hk, fun a hm => ?_⟩
    have hai := argsOf_in hw (tyAt_in hs) hk hm
    by_cases e : a.d = -1
    · obtain ⟨m, rfl⟩ : ∃ m, n = m + 1 := ⟨n - 1, by omega⟩
      exact .inl e
    · obtain ⟨q1, q2⟩ := hai.slot e
      have := h _ q1 (by rw [q2]; exact ha a hm)
      rwa [q2] at this
noncomputable def lvl (xs : List Dt) (n : Nat) : Nat := ((List.range (xs.length * 4)).filter fun s => decide (hasD xs n (tyAt s))).length
theorem filter_lt {p q : Nat → Bool} : ∀ (l : List Nat), (∀ x ∈ l, p x = true → q x = true) → (∃ x ∈ l, q x = true ∧ p x = false) → (l.filter p).length < (l.filter q).length
  | [], _, h => by obtain ⟨x, hx, -⟩ := h; cases hx
  | y :: l, h, ⟨x, hx, h1, h2⟩ => by
    have hle : ∀ l : List Nat, (∀ x ∈ l, p x = true → q x = true) → (l.filter p).length ≤ (l.filter q).length := by
      intro l
      induction l with
      | nil => intro _; exact Nat.le_refl _
      | cons z l ih =>
        intro hl
        have := ih fun x hx => hl x (by simp [hx])
        have hz := hl z (by simp)
        cases hp : p z with
        | true => rw [List.filter_cons_of_pos hp, List.filter_cons_of_pos (hz hp)]; simp only [List.length_cons]; omega
        | false =>
          rw [List.filter_cons_of_neg (by simp [hp])]
          cases hq : q z with
          | true => rw [List.filter_cons_of_pos hq]; simp only [List.length_cons]; omega
          | false => rw [List.filter_cons_of_neg (by simp [hq])]; exact this
    have hrest := hle l fun x hx => h x (by simp [hx])
    rcases List.mem_cons.1 hx with rfl | hx
    · rw [List.filter_cons_of_neg (by simp [h2]), List.filter_cons_of_pos h1]; simp only [List.length_cons]; omega
    · have ih := filter_lt l (fun x hx => h x (by simp [hx])) ⟨x, hx, h1, h2⟩
      have hy := h y (by simp)
      cases hp : p y with
      | true => rw [List.filter_cons_of_pos hp, List.filter_cons_of_pos (hy hp)]; simp only [List.length_cons]; omega
      | false =>
        rw [List.filter_cons_of_neg (by simp [hp])]
        cases hq : q y with
        | true => rw [List.filter_cons_of_pos hq]; simp only [List.length_cons]; omega
        | false => rw [List.filter_cons_of_neg (by simp [hq])]; exact ih
theorem lvl_lt {xs : List Dt} {n : Nat} (h : ¬ Stable xs n) : lvl xs n < lvl xs (n + 1) := by
  unfold Stable at h
  obtain ⟨s, h⟩ := Classical.not_forall.1 h
  obtain ⟨hs, h⟩ := Classical.not_imp.1 h
  obtain ⟨h1, h2⟩ := Classical.not_imp.1 h
  unfold lvl
  refine filter_lt _ (fun x _ hx => ?_) ⟨s, List.mem_range.2 hs, by simp [h1], by simp [h2]⟩
  simp only [decide_eq_true_eq] at hx ⊢
  exact hasD_mono hx
theorem lvl_le (xs : List Dt) (n : Nat) : lvl xs n ≤ xs.length * 4 := by
  unfold lvl
  exact Nat.le_trans (List.length_filter_le _ _) (by simp)
theorem stable_ex {xs : List Dt} : ∀ n, (∃ m, 1 ≤ m ∧ m ≤ n ∧ Stable xs m) ∨ n ≤ lvl xs (n + 1)
  | 0 => .inr (Nat.zero_le _)
  | n + 1 => by
    rcases stable_ex (xs := xs) n with ⟨m, h1, h2, h3⟩ | h
    · exact .inl ⟨m, h1, by omega, h3⟩
    · by_cases hs : Stable xs (n + 1)
      · exact .inl ⟨n + 1, by omega, Nat.le_refl _, hs⟩
      · have := lvl_lt hs
        exact .inr (by omega)
theorem stable_max {xs : List Dt} (hw : WorldOK xs) : Stable xs (xs.length * 4 + 1) := by
  rcases stable_ex (xs := xs) (xs.length * 4 + 1) with ⟨m, h1, h2, h3⟩ | h
  · have key : ∀ k, m ≤ k → Stable xs k := by
      intro k hk
      induction hk with
      | refl => exact h3
      | step hk ih => exact stable_step hw (Nat.le_trans h1 hk) ih
    exact key _ h2
  · have := lvl_le xs (xs.length * 4 + 1 + 1)
    omega
theorem hasD_max {xs : List Dt} (hw : WorldOK xs) {s : Nat} (hs : s < xs.length * 4) : ∀ {n : Nat}, hasD xs n (tyAt s) → hasD xs (xs.length * 4 + 1) (tyAt s) := by
  have hst : ∀ k, Stable xs (xs.length * 4 + 1 + k) := by
    intro k
    induction k with
    | zero => exact stable_max hw
    | succ k ih => exact stable_step hw (n := xs.length * 4 + 1 + k) (by omega) ih
  have down : ∀ k, hasD xs (xs.length * 4 + 1 + k) (tyAt s) → hasD xs (xs.length * 4 + 1) (tyAt s) := by
    intro k
    induction k with
    | zero => exact id
    | succ k ih => exact fun h => ih (hst k s hs h)
  intro n h
  exact down n (hasD_le h (by omega))

theorem list_ext {a b : List Int} (hl : a.length = b.length) (h : ∀ s, s < a.length → a.getD s 0 = b.getD s 0) : a = b := by
  refine List.ext_getElem hl fun s h1 h2 => ?_
  have := h s h1
  simpa [List.getD, List.getElem?_eq_getElem h1, List.getElem?_eq_getElem h2] using this
theorem tableL_fix {xs : List Dt} (hw : WorldOK xs) : sweep xs (tableL xs) = tableL xs := by
  refine list_ext (by show (sweeps xs (_ + 1)).length = (sweeps xs _).length; rw [sweeps_length, sweeps_length]) fun s hs => ?_
  have hs : s < xs.length * 4 := Nat.lt_of_lt_of_eq hs (sweeps_length xs (xs.length * 4 + 1 + 1))
  show (sweeps xs (xs.length * 4 + 1 + 1)).getD s 0 = (sweeps xs (xs.length * 4 + 1)).getD s 0
  have s1 := sound_sweeps hw (xs.length * 4 + 1)
  have s2 := sound_sweeps hw (xs.length * 4 + 1 + 1)
  have d1 := done_sweeps hw (xs.length * 4 + 1) s hs
  by_cases h0 : (sweeps xs (xs.length * 4 + 1)).getD s 0 = 0
  · by_cases h1 : (sweeps xs (xs.length * 4 + 1 + 1)).getD s 0 = 0
    · rw [h0, h1]
    · exact absurd h0 (d1 (hasD_max hw hs (s2.has s hs h1))).1
  · have l := le_sweeps (xs := xs) (xs.length * 4 + 1) s h0
    have hv := s2.has s hs l.1
    have hb := (d1 (hasD_max hw hs (s1.has s hs h0))).2
    have hp := s2.pos s
    have hd := done_sweeps hw _ s hs hv
    have hl := le_sweeps' (xs := xs) (n := ((sweeps xs (xs.length * 4 + 1 + 1)).getD s 0).toNat) (m := xs.length * 4 + 1) (by omega) s hd.1
    omega
theorem sweeps_from {xs : List Dt} {m : Nat} (h : sweep xs (sweeps xs m) = sweeps xs m) : ∀ k, sweeps xs (m + k) = sweeps xs m
  | 0 => rfl
  | k + 1 => by show sweep xs (sweeps xs (m + k)) = _; rw [sweeps_from h k, h]
/-- a fixed point that is reached is the table -/
theorem fix_table {xs : List Dt} (hw : WorldOK xs) {m : Nat} (h : sweep xs (sweeps xs m) = sweeps xs m) : sweeps xs m = tableL xs := by
  rcases Nat.le_total m (xs.length * 4 + 1) with hm | hm
  · obtain ⟨k, hk⟩ := Nat.exists_eq_add_of_le hm
    have := sweeps_from h k
    rw [← hk] at this
    exact this.symm
  · obtain ⟨k, hk⟩ := Nat.exists_eq_add_of_le hm
    rw [hk]
    exact sweeps_from (tableL_fix hw) k
theorem moved_le {xs : List Dt} (hw : WorldOK xs) {m : Nat} (h : sweep xs (sweeps xs m) ≠ sweeps xs m) : m ≤ xs.length * 4 := by
  rcases Nat.lt_or_ge (xs.length * 4) m with hm | hm
  · obtain ⟨k, hk⟩ := Nat.exists_eq_add_of_le (show xs.length * 4 + 1 ≤ m by omega)
    refine absurd ?_ h
    have e : sweeps xs m = tableL xs := by rw [hk]; exact sweeps_from (tableL_fix hw) k
    rw [e]; exact tableL_fix hw
  · exact hm

/-- a table differs from the one that a sweep began with -/
def movedB (t cur : List Int) : Bool := !(cur == t)
theorem movedB_refl (t : List Int) : movedB t t = false := by unfold movedB; simp
theorem movedB_put {t cur : List Int} (h : Le t cur) {s : Nat} (hs : s < cur.length) {n : Int} (hb : better cur s n = true) (hp : 0 ≤ cur.getD s 0) : movedB t (putIf cur s n) = true := by
  have hne : putIf cur s n ≠ t := fun e => by
    obtain ⟨h1, h2⟩ := better_iff.1 hb
    have hv : (putIf cur s n).getD s 0 = n := by
      unfold putIf
      rw [if_pos hb, getD_set _ _ _ _ hs, if_pos rfl]
    rw [e] at hv
    by_cases h0 : t.getD s 0 = 0
    · omega
    · have := h s h0
      omega
  unfold movedB
  simp [hne]
theorem movedB_not {cur : List Int} {s : Nat} {n : Int} (hb : better cur s n = false) : putIf cur s n = cur := by unfold putIf; rw [if_neg (by simp [hb])]
theorem putIf_yes {cur : List Int} {s : Nat} {n : Int} (hb : better cur s n = true) : putIf cur s n = cur.set s n := if_pos hb
theorem movedB_iff {t cur : List Int} : movedB t cur = false ↔ cur = t := by unfold movedB; simp
/-- what LeastDepth gives -/
def depthL (xs : List Dt) (t : Ty) : Int := if typeValidB xs t = true then depthIn (tableL xs) t else 0
end Go.Proofs.YtilndhmegaccmaaGreatDoor

namespace Go.Proofs.YtilndhmegaccmaaGreatDoor
open Go.RowKit

theorem fitTo_mem {cs : List Kt} {i : Int} {m k : Nat} (hm : m ≤ cs.length) : (k : Int) ∈ fitTo cs i m ↔ ∃ h : k < m, fitsB (cs[k]'(by omega)) i = true := by
  unfold fitTo
  rw [List.mem_map]
  constructor
  · rintro ⟨j, hj, e⟩
    have e : j = k := Int.ofNat.inj e
    subst e
    obtain ⟨h1, h2⟩ := List.mem_filter.1 hj
    have hjm : j < m := by simpa using h1
    refine ⟨hjm, ?_⟩
    unfold fitAt at h2
    rw [List.getElem?_eq_getElem (by omega)] at h2
    exact h2
  · rintro ⟨h, hf⟩
    refine ⟨k, List.mem_filter.2 ⟨by simpa using h, ?_⟩, rfl⟩
    unfold fitAt
    rw [List.getElem?_eq_getElem (by omega)]
    exact hf
theorem hasB_ctors {xs : List Dt} {d k : Nat} {i : Int} (hd : d < xs.length) (hk : k < xs[d].ctors.length) : hasB (ctorsL xs ⟨(d : Int), i⟩) (k : Int) = fitsB xs[d].ctors[k] i := by
  rw [Bool.eq_iff_iff, hasB_iff, ctorsL_data hd, fitTo_mem (Nat.le_refl _)]
  exact ⟨fun ⟨_, h⟩ => h, fun h => ⟨hk, h⟩⟩
/-- constructors with an index are among those with any -/
theorem ctorsL_any {xs : List Dt} {t : Ty} {n : Int} (ht : InWorld xs.length t) (h : n ∈ ctorsL xs t) : n ∈ ctorsL xs ⟨t.d, 0⟩ := by
  obtain ⟨d, k, h1, rfl, hd, hk⟩ := mem_ctorsL ht h
  obtain ⟨t1, t2⟩ := t
  simp only at h1
  subst h1
  rw [ctorsL_data hd, fitTo_mem (Nat.le_refl _)]
  refine ⟨hk, ?_⟩
  unfold fitsB
  simp
theorem fitTo_lt (cs : List Kt) (i : Int) : ∀ n, ∀ x ∈ fitTo cs i n, x < (n : Int) := by
  intro n x hx
  obtain ⟨k, rfl, hk⟩ := mem_fitTo hx
  omega
/-- they ascend -/
theorem fitTo_sorted (cs : List Kt) (i : Int) (n : Nat) (hn : n ≤ cs.length) : ∀ a (ha : a + 1 < (fitTo cs i n).length), (fitTo cs i n)[a] < (fitTo cs i n)[a + 1] := by
  induction n with
  | zero => intro a ha; simp [fitTo] at ha
  | succ n ih =>
    intro a ha
    have hs := fitTo_succ cs i n (by omega)
    cases hf : fitsB cs[n] i with
    | false =>
      rw [hf] at hs
      simp only [Bool.false_eq_true, if_false] at hs
      simp only [hs] at ha ⊢
      exact ih (by omega) a ha
    | true =>
      rw [hf] at hs
      simp only [if_true] at hs
      simp only [hs] at ha ⊢
      rw [List.length_append, List.length_singleton] at ha
      rcases Nat.lt_or_ge (a + 1) (fitTo cs i n).length with h | h
      · rw [List.getElem_append_left (by omega), List.getElem_append_left h]
        exact ih (by omega) a h
      · rw [List.getElem_append_left (by omega), List.getElem_append_right (by omega)]
        have := fitTo_lt cs i n _ (List.getElem_mem (show a < (fitTo cs i n).length by omega))
        simp only [show a + 1 - (fitTo cs i n).length = 0 by omega, List.getElem_cons_zero]
        omega
theorem ctorsL_sorted {xs : List Dt} {t : Ty} (ht : InWorld xs.length t) : ∀ a (ha : a + 1 < (ctorsL xs t).length), (ctorsL xs t)[a] < (ctorsL xs t)[a + 1] := by
  rcases ht with hd | ⟨d, hd, hdl⟩
  · intro a ha
    have := ctorsL_int (xs := xs) hd
    simp only [this] at ha
    simp at ha
  · obtain ⟨t1, t2⟩ := t
    simp only at hd
    subst hd
    have e := ctorsL_data (i := t2) hdl
    intro a ha
    simp only [e] at ha ⊢
    exact fitTo_sorted _ _ _ (Nat.le_refl _) a ha
end Go.Proofs.YtilndhmegaccmaaGreatDoor

namespace Go.Proofs.YtilndhmegaccmaaGreatDoor
open Go.RowKit

theorem tableL_done {xs : List Dt} (hw : WorldOK xs) (n : Nat) : Done xs (tableL xs) n := fun s hs h => by
  rcases Nat.le_total n (xs.length * 4 + 1) with hn | hn
  · exact (done_sweeps hw n).le (le_sweeps' hn) s hs h
  · have := done_sweeps hw (xs.length * 4 + 1) s hs (hasD_max hw hs h)
    exact ⟨this.1, by have h2 := this.2; show (sweeps xs (xs.length * 4 + 1)).getD s 0 ≤ (n : Int); omega⟩
theorem depthIn_done {xs : List Dt} (hw : WorldOK xs) {a : Ty} (ha : TyIn xs.length a) {n : Nat} (h : hasD xs n a) : depthIn (tableL xs) a ≠ 0 ∧ depthIn (tableL xs) a ≤ n := by
  have hn : 1 ≤ n := by
    cases n with
    | zero => exact h.elim
    | succ n => omega
  by_cases e : a.d = -1
  · unfold depthIn
    rw [if_pos e]
    omega
  · obtain ⟨h1, h2⟩ := ha.slot e
    have := tableL_done hw n (slotOf a) h1 (by rw [h2]; exact h)
    unfold depthIn
    rw [if_neg e]
    exact this
theorem sound_tableL {xs : List Dt} (hw : WorldOK xs) : Sound xs (tableL xs) := sound_sweeps hw _
theorem mostIn_nonneg {xs : List Dt} (hw : WorldOK xs) (t : Ty) (k : Int) : 0 ≤ mostIn xs (tableL xs) t k := by
  have key : ∀ (ls : List Ty) (m : Int), 0 ≤ m → 0 ≤ mostGo (tableL xs) m ls := by
    intro ls
    induction ls with
    | nil => intro m h; simp only [mostGo]; omega
    | cons a ls ih =>
      intro m h
      simp only [mostGo]
      split
      · omega
      · exact ih _ (by omega)
  exact key _ _ (Int.le_refl _)
theorem least_le {xs : List Dt} (hw : WorldOK xs) {t : Ty} (ht : TyIn xs.length t) {k : Int} (hk : k ∈ ctorsL xs t) (hm : mostIn xs (tableL xs) t k ≠ 0) : depthIn (tableL xs) t ≠ 0 ∧ depthIn (tableL xs) t ≤ mostIn xs (tableL xs) t k := by
  have hs := sound_tableL hw
  have hne := mostGo_ne hm
  have hp := mostGo_pos hs.dpos (Int.le_refl 0) hne
  have h0 : 0 < mostIn xs (tableL xs) t k := hp.1
  have := depthIn_done hw ht (n := (mostIn xs (tableL xs) t k - 1).toNat + 1) (.inr ⟨k, hk, fun a ha => by
    refine hasD_le (hs.dhas (argsOf_in hw ht hk ha) (hne a ha)) ?_
    have := hp.2 a ha
    have h2 : mostGo (tableL xs) 0 (argsOf xs t k) = mostIn xs (tableL xs) t k := rfl
    omega⟩)
  exact ⟨this.1, by have h2 := this.2; omega⟩
theorem least_ex {xs : List Dt} (hw : WorldOK xs) {t : Ty} (ht : TyIn xs.length t) (hd : ¬ t.d = -1) (h : depthIn (tableL xs) t ≠ 0) : ∃ k ∈ ctorsL xs t, mostIn xs (tableL xs) t k ≠ 0 ∧ mostIn xs (tableL xs) t k ≤ depthIn (tableL xs) t := by
  have hs := sound_tableL hw
  have h0 := hs.dpos t
  have hh := hs.dhas ht h
  obtain ⟨m, hm⟩ : ∃ m, (depthIn (tableL xs) t).toNat = m + 1 := ⟨(depthIn (tableL xs) t).toNat - 1, by omega⟩
  rw [hm] at hh
  rcases hh with hh | ⟨k, hk, ha⟩
  · exact absurd hh hd
  · have hall : ∀ a ∈ argsOf xs t k, depthIn (tableL xs) a ≠ 0 ∧ depthIn (tableL xs) a ≤ (m : Int) := fun a hm => depthIn_done hw (argsOf_in hw ht hk hm) (ha a hm)
    have h1 : mostIn xs (tableL xs) t k ≤ (m : Int) + 1 := mostGo_le (by omega) hall
    have h2 : 0 < mostIn xs (tableL xs) t k := (mostGo_pos hs.dpos (Int.le_refl 0) fun a ha => (hall a ha).1).1
    exact ⟨k, hk, by omega, by omega⟩

/-! ### The least of some numbers, where 0 stands for none -/
def bestOf (b m : Int) : Int := if m ≠ 0 ∧ (b = 0 ∨ m < b) then m else b
def bestTo (ms : List Int) : Int := ms.foldl bestOf 0
theorem bestTo_snoc (ms : List Int) (m : Int) : bestTo (ms ++ [m]) = bestOf (bestTo ms) m := by unfold bestTo; rw [List.foldl_append]; rfl
theorem bestTo_spec : ∀ (ms : List Int), (∀ m ∈ ms, 0 ≤ m) → ((bestTo ms = 0 ∧ ∀ m ∈ ms, m = 0) ∨ (bestTo ms ∈ ms ∧ 0 < bestTo ms ∧ ∀ m ∈ ms, m ≠ 0 → bestTo ms ≤ m)) := by
  have key : ∀ (r ms : List Int), ms = r.reverse → (∀ m ∈ ms, 0 ≤ m) → ((bestTo ms = 0 ∧ ∀ m ∈ ms, m = 0) ∨ (bestTo ms ∈ ms ∧ 0 < bestTo ms ∧ ∀ m ∈ ms, m ≠ 0 → bestTo ms ≤ m)) := by
    intro r
    induction r with
    | nil => intro ms e _; subst e; exact .inl ⟨rfl, fun m hm => by cases hm⟩
    | cons x r ih =>
      intro ms e hp
      rw [List.reverse_cons] at e
      subst e
      have hpx := hp x (by simp)
      have ih := ih _ rfl fun m hm => hp m (by simp at hm ⊢; simp [hm])
      rw [bestTo_snoc]
      unfold bestOf
      rcases ih with ⟨h1, h2⟩ | ⟨h1, h2, h3⟩
      · by_cases hx : x = 0
        · left
          rw [if_neg (by omega)]
          exact ⟨h1, fun m hm => by
            rcases List.mem_append.1 hm with h | h
            · exact h2 m h
            · rw [List.mem_singleton] at h; omega⟩
        · right
          rw [if_pos ⟨hx, .inl h1⟩]
          exact ⟨by simp, by omega, fun m hm hm0 => by
            rcases List.mem_append.1 hm with h | h
            · exact absurd (h2 m h) hm0
            · rw [List.mem_singleton] at h; omega⟩
      · right
        split
        · rename_i hc
          exact ⟨by simp, by omega, fun m hm hm0 => by
            rcases List.mem_append.1 hm with h | h
            · have := h3 m h hm0; omega
            · rw [List.mem_singleton] at h; omega⟩
        · rename_i hc
          exact ⟨List.mem_append.2 (.inl h1), h2, fun m hm hm0 => by
            rcases List.mem_append.1 hm with h | h
            · exact h3 m h hm0
            · rw [List.mem_singleton] at h; subst h; omega⟩
  intro ms hp
  exact key ms.reverse ms (by simp) hp
theorem best_least {xs : List Dt} (hw : WorldOK xs) {t : Ty} (ht : TyIn xs.length t) (hd : ¬ t.d = -1) : bestTo ((ctorsL xs t).map (mostIn xs (tableL xs) t)) = depthIn (tableL xs) t := by
  have hp : ∀ m ∈ (ctorsL xs t).map (mostIn xs (tableL xs) t), 0 ≤ m := fun m hm => by
    obtain ⟨k, -, rfl⟩ := List.mem_map.1 hm
    exact mostIn_nonneg hw t k
  have h0 := (sound_tableL hw).dpos t
  rcases bestTo_spec _ hp with ⟨h1, h2⟩ | ⟨h1, h2, h3⟩
  · rw [h1]
    by_cases e : depthIn (tableL xs) t = 0
    · exact e.symm
    · obtain ⟨k, hk, hk0, -⟩ := least_ex hw ht hd e
      exact absurd (h2 _ (List.mem_map.2 ⟨k, hk, rfl⟩)) hk0
  · obtain ⟨k, hk, e⟩ := List.mem_map.1 h1
    have l1 := least_le hw ht hk (by omega)
    obtain ⟨k2, hk2, hk20, hk2l⟩ := least_ex hw ht hd l1.1
    have := h3 _ (List.mem_map.2 ⟨k2, hk2, rfl⟩) hk20
    omega

/-! ### Any index is no deeper -/
theorem hasD_wide {xs : List Dt} (hw : WorldOK xs) : ∀ (n : Nat) (t : Ty), TyIn xs.length t → hasD xs n t → hasD xs n ⟨t.d, 0⟩
  | 0, _, _, h => h
  | n + 1, t, ht, h => by
    rcases h with h | ⟨k, hk, ha⟩
    · exact .inl h
    · refine .inr ⟨k, ctorsL_any ht.inWorld hk, fun a hm => ?_⟩
      obtain ⟨d, m, h1, rfl, hd, hml⟩ := mem_ctorsL ht.inWorld hk
      have hin := fun a ha => argsOf_in hw ht hk (a := a) ha
      obtain ⟨t1, t2⟩ := t
      simp only at h1
      subst h1
      rw [argsOf_get hd hml] at hm
      rw [argsOf_get hd hml] at ha hin
      unfold argsL at hm ha hin
      obtain ⟨b, hb, rfl⟩ := List.mem_map.1 hm
      have hb2 := ha _ (List.mem_map.2 ⟨b, hb, rfl⟩)
      have hb3 := hin _ (List.mem_map.2 ⟨b, hb, rfl⟩)
      cases q : (b.i == -1) with
      | false =>
        rw [argTy_no q] at hb2 ⊢
        exact hb2
      | true =>
        rw [argTy_yes q] at hb2 hb3 ⊢
        unfold resIdx at hb2 hb3 ⊢
        split
        · rename_i hz
          rw [if_pos hz] at hb2 hb3
          exact hasD_wide hw n ⟨b.d, t2⟩ hb3 hb2
        · rename_i hz
          rw [if_neg hz] at hb2
          exact hb2
theorem depth_wide {xs : List Dt} (hw : WorldOK xs) {t : Ty} (ht : TyIn xs.length t) (h : depthIn (tableL xs) t ≠ 0) : depthIn (tableL xs) ⟨t.d, 0⟩ ≠ 0 ∧ depthIn (tableL xs) ⟨t.d, 0⟩ ≤ depthIn (tableL xs) t := by
  have hs := sound_tableL hw
  have ht0 : TyIn xs.length ⟨t.d, 0⟩ := by
    rcases ht with h | ⟨d, i, rfl, h1, h2⟩
    · exact .inl h
    · exact .inr ⟨d, 0, rfl, h1, by omega⟩
  have := depthIn_done hw ht0 (hasD_wide hw _ _ ht (hs.dhas ht h))
  have h0 := hs.dpos t
  exact ⟨this.1, by have h2 := this.2; omega⟩
end Go.Proofs.YtilndhmegaccmaaGreatDoor

namespace Go.Proofs.YtilndhmegaccmaaGreatDoor
open Go.RowKit

theorem ArrP.drew' {w : World} {vs : List P} {x : Value} {F : List Nat} (h : Arr w (PR w) vs x F) : Arr w.drew (PR w.drew) vs x F := ArrP.mono (w := w) h (fun _ _ => rfl)
theorem ArrP.at {w0 w : World} {b off n cap : Nat} {F : List Nat} {xs : List P} (h : Arr w0 (PR w0) xs (.slice (some ⟨b, off, none⟩) n cap) F) (hF : Under w0.heap.size F) (hB : Below w0.heap.size w0 w) (i : Nat) (hi : i < xs.length) :
    ∃ A1 cap1 G, b < w.heap.size ∧ w.cell? ⟨b, off + i * 6, none⟩ = some (.int .i64 xs[i].op) ∧ w.cell? ⟨b, off + i * 6 + 1, none⟩ = some (.int .i64 xs[i].ct) ∧ w.cell? ⟨b, off + i * 6 + 2, none⟩ = some (.int .i64 xs[i].n) ∧ w.cell? ⟨b, off + i * 6 + 3, none⟩ = some (.int .i64 xs[i].m) ∧ w.cell? ⟨b, off + i * 6 + 4, none⟩ = some (.int .i64 xs[i].va) ∧ w.cell? ⟨b, off + i * 6 + 5, none⟩ = some (.slice A1 xs[i].ks.length cap1) ∧
      Hid (PR w0 xs[i] [.int .i64 xs[i].op, .int .i64 xs[i].ct, .int .i64 xs[i].n, .int .i64 xs[i].m, .int .i64 xs[i].va, .slice A1 xs[i].ks.length cap1] G) ∧ Hid (Under w0.heap.size G) ∧ (∀ b ∈ G, b ∈ F) ∧ xs[i].ks.length ≤ cap1 ∧ cap1 ≤ 9223372036854775807 := by
  obtain ⟨b', off', cs, G, e, hb, hcs, hv, hG⟩ := h.get PR_len hi
  cases e
  have hbl := hF _ hb
  have hc := hcs.same (hB.block _ hbl)
  obtain ⟨kv, rfl, ha⟩ := (PR_iff _ _ _).1 hv
  obtain ⟨A1, cap1, rfl, h1, h2⟩ := ha.form
  exact ⟨A1, cap1, G, Nat.lt_of_lt_of_le hbl hB.size, hc 0 _ rfl, hc 1 _ rfl, hc 2 _ rfl, hc 3 _ rfl, hc 4 _ rfl, hc 5 _ rfl, hv, hF.sub hG, hG, h1, h2⟩
theorem nodesP_ks (p : P) : nodesP p = 1 + P.sizes p.ks := by obtain ⟨op, ct, n, m, va, ks⟩ := p; unfold nodesP; rw [P.size]; simp only; omega
theorem sizesP_step {l : List P} {i : Nat} (h : i < l.length) : P.sizes (l.take (i + 1)) = P.sizes (l.take i) + nodesP l[i] := by
  rw [P.sizes_eq, P.sizes_eq, P.subs_take_succ l i h, List.length_take, List.length_take]
  unfold nodesP
  omega
theorem sizesP_take_le (l : List P) (i : Nat) : P.sizes (l.take i) ≤ P.sizes l := by
  rw [P.sizes_eq, P.sizes_eq, List.length_take]
  have := P.subs_take_le l i
  omega
theorem nodesP_mem {l : List P} {i : Nat} (h : i < l.length) : nodesP l[i] ≤ P.sizes l := by
  have h1 := sizesP_step h
  have h2 := sizesP_take_le l (i + 1)
  omega
theorem P.indv {q : P → Prop} (h : ∀ v : P, (∀ k ∈ v.ks, q k) → q v) : ∀ v, q v := P.ind fun op ct n m va ks ih => h ⟨op, ct, n, m, va, ks⟩ ih
end Go.Proofs.YtilndhmegaccmaaGreatDoor

namespace Go.Proofs.YtilndhmegaccmaaGreatDoor
open Go.RowKit

structure V where
  c : Int
  n : Int
  ks : List V

theorem V.ind {p : V → Prop} (h : ∀ c n ks, (∀ k ∈ ks, p k) → p ⟨c, n, ks⟩) : ∀ v, p v
  | ⟨c, n, ks⟩ => h c n ks fun k hk => V.ind h k
termination_by v => SizeOf.sizeOf v
decreasing_by
  have := List.sizeOf_lt_of_mem hk
  simp
  omega

mutual
def V.size : V → Nat
  | ⟨_, _, ks⟩ => V.sizes ks
def V.sizes : List V → Nat
  | [] => 0
  | k :: ks => 1 + V.size k + V.sizes ks
end

def V.subs : List V → Nat
  | [] => 0
  | k :: ks => k.size + V.subs ks
theorem V.subs_snoc (l : List V) (x : V) : V.subs (l ++ [x]) = V.subs l + x.size := by
  induction l with
  | nil => simp [V.subs]
  | cons k l ih => simp only [List.cons_append, V.subs, ih]; omega
theorem V.sizes_eq (l : List V) : V.sizes l = l.length + V.subs l := by
  induction l with
  | nil => rfl
  | cons k l ih => simp only [V.sizes, V.subs, List.length_cons, ih]; omega
theorem V.subs_take_le (l : List V) (k : Nat) : V.subs (l.take k) ≤ V.subs l := by
  induction l generalizing k with
  | nil => simp [V.subs]
  | cons x l ih =>
    cases k with
    | zero => simp [V.subs]
    | succ k => simp only [List.take_succ_cons, V.subs]; have := ih k; omega
theorem V.subs_take_succ (l : List V) (k : Nat) (h : k < l.length) : V.subs (l.take (k + 1)) = V.subs (l.take k) + l[k].size := by
  rw [take_snoc' l k h, V.subs_snoc]
theorem V.size_lt (l : List V) (k : Nat) (h : k < l.length) : l[k].size + l.length ≤ V.sizes l := by
  have h2 := V.subs_take_le l (k + 1)
  rw [V.subs_take_succ l k h] at h2
  rw [V.sizes_eq]
  omega

mutual
def VR (w : World) : V → List Value → List Nat → Prop
  | ⟨c, n, ks⟩, cs, F => ∃ A cap, cs = [.int .i64 c, .int .i64 n, .slice A ks.length cap] ∧ ks.length ≤ cap ∧ cap ≤ maxLen ∧ ((ks = [] ∧ F = []) ∨ ∃ b off ds G, A = some ⟨b, off, none⟩ ∧ CellsAt w b off ds ∧ VRs w ks ds G ∧ F = b :: G)
def VRs (w : World) : List V → List Value → List Nat → Prop
  | [], cs, F => cs = [] ∧ F = []
  | x :: xs, cs, F => ∃ c1 c2 F1 F2, cs = c1 ++ c2 ∧ F = F1 ++ F2 ∧ VR w x c1 F1 ∧ VRs w xs c2 F2
end

theorem VRs_eq (w : World) (ks : List V) : ∀ cs F, VRs w ks cs F ↔ Flat (VR w) ks cs F := by
  induction ks with
  | nil => intro cs F; simp [VRs, Flat]
  | cons k ks ih =>
    intro cs F
    simp only [VRs, Flat, ih]

theorem VR_iff {w : World} (v : V) (cs : List Value) (F : List Nat) : VR w v cs F ↔ ∃ kv, cs = [.int .i64 v.c, .int .i64 v.n, kv] ∧ Arr w (VR w) v.ks kv F := by
  obtain ⟨c, n, ks⟩ := v
  simp only [VR, Arr, VRs_eq]
  constructor
  · rintro ⟨A, cap, rfl, h1, h2, h3⟩
    exact ⟨_, rfl, A, cap, rfl, h1, h2, h3⟩
  · rintro ⟨kv, rfl, A, cap, rfl, h1, h2, h3⟩
    exact ⟨A, cap, rfl, h1, h2, h3⟩

theorem VR_len {w : World} (v : V) (cs : List Value) (F : List Nat) (h : VR w v cs F) : cs.length = 3 := by
  obtain ⟨kv, rfl, -⟩ := (VR_iff _ _ _).1 h
  rfl

theorem VR.mono {w w' : World} : ∀ v cs F, Kept F w w' → VR w v cs F → VR w' v cs F := by
  refine V.ind fun c n ks ih cs F hF h => ?_
  rw [VR_iff] at h ⊢
  obtain ⟨kv, rfl, h⟩ := h
  exact ⟨kv, rfl, h.mono hF ih⟩

theorem VR.below {w w' : World} {B : Nat} {v : V} {cs : List Value} {F : List Nat} (h : VR w v cs F) (hb : Below B w w') (hF : Under B F) : VR w' v cs F := VR.mono v cs F (.of_below hb hF) h

theorem VR.drew {w : World} {v : V} {cs : List Value} {F : List Nat} (h : VR w v cs F) : VR w.drew v cs F := VR.mono (w := w) v cs F (fun _ _ => rfl) h
theorem VR.drewN {w : World} {v : V} {cs : List Value} {F : List Nat} (h : VR w v cs F) (n : Nat) : VR (w.drewN n) v cs F := VR.mono (w := w) v cs F (fun _ _ => rfl) h

theorem ArrV.mono {w w' : World} {vs : List V} {x : Value} {F : List Nat} (h : Arr w (VR w) vs x F) (hF : Kept F w w') : Arr w' (VR w') vs x F := h.mono hF fun v _ => VR.mono v
theorem ArrV.below {w w' : World} {B : Nat} {vs : List V} {x : Value} {F : List Nat} (h : Arr w (VR w) vs x F) (hb : Below B w w') (hF : Under B F) : Arr w' (VR w') vs x F := ArrV.mono h (.of_below hb hF)

end Go.Proofs.YtilndhmegaccmaaGreatDoor

namespace Go.Proofs.YtilndhmegaccmaaGreatDoor
open Go.RowKit

theorem ArrV.drew' {w : World} {vs : List V} {x : Value} {F : List Nat} (h : Arr w (VR w) vs x F) : Arr w.drew (VR w.drew) vs x F := ArrV.mono (w := w) h (fun _ _ => rfl)
theorem ArrV.at {w0 w : World} {b off n cap : Nat} {F : List Nat} {xs : List V} (h : Arr w0 (VR w0) xs (.slice (some ⟨b, off, none⟩) n cap) F) (hF : Under w0.heap.size F) (hB : Below w0.heap.size w0 w) (i : Nat) (hi : i < xs.length) :
    ∃ A1 cap1 G, b < w.heap.size ∧ w.cell? ⟨b, off + i * 3, none⟩ = some (.int .i64 xs[i].c) ∧ w.cell? ⟨b, off + i * 3 + 1, none⟩ = some (.int .i64 xs[i].n) ∧ w.cell? ⟨b, off + i * 3 + 2, none⟩ = some (.slice A1 xs[i].ks.length cap1) ∧
      Hid (VR w0 xs[i] [.int .i64 xs[i].c, .int .i64 xs[i].n, .slice A1 xs[i].ks.length cap1] G) ∧ Hid (Under w0.heap.size G) ∧ (∀ b ∈ G, b ∈ F) ∧ xs[i].ks.length ≤ cap1 ∧ cap1 ≤ 9223372036854775807 := by
  obtain ⟨b', off', cs, G, e, hb, hcs, hv, hG⟩ := h.get VR_len hi
  cases e
  have hbl := hF _ hb
  have hc := hcs.same (hB.block _ hbl)
  obtain ⟨kv, rfl, ha⟩ := (VR_iff _ _ _).1 hv
  obtain ⟨A1, cap1, rfl, h1, h2⟩ := ha.form
  exact ⟨A1, cap1, G, Nat.lt_of_lt_of_le hbl hB.size, hc 0 _ rfl, hc 1 _ rfl, hc 2 _ rfl, hv, hF.sub hG, hG, h1, h2⟩
/-- the nodes of a value -/
def nodes (v : V) : Nat := 1 + v.size
theorem nodes_ks (v : V) : nodes v = 1 + V.sizes v.ks := by obtain ⟨c, n, ks⟩ := v; rfl
theorem sizes_step {l : List V} {i : Nat} (h : i < l.length) : V.sizes (l.take (i + 1)) = V.sizes (l.take i) + nodes l[i] := by
  rw [V.sizes_eq, V.sizes_eq, V.subs_take_succ l i h, List.length_take, List.length_take]
  unfold nodes
  omega
theorem sizes_take_le (l : List V) (i : Nat) : V.sizes (l.take i) ≤ V.sizes l := by
  rw [V.sizes_eq, V.sizes_eq, List.length_take]
  have := V.subs_take_le l i
  omega
def zipAll (f : Ty → V → Bool) : List Ty → List V → Bool
  | a :: ls, k :: ks => f a k && zipAll f ls ks
  | _, _ => true
theorem zipAll_step {f : Ty → V → Bool} {ls : List Ty} {ks : List V} {i : Nat} (h1 : i < ls.length) (h2 : i < ks.length) : zipAll f (ls.drop i) (ks.drop i) = (f ls[i] ks[i] && zipAll f (ls.drop (i + 1)) (ks.drop (i + 1))) := by
  rw [List.drop_eq_getElem_cons h1, List.drop_eq_getElem_cons h2, zipAll]
theorem zipAll_end {f : Ty → V → Bool} {ls : List Ty} {ks : List V} {i : Nat} (h1 : ls.length ≤ i) : zipAll f (ls.drop i) (ks.drop i) = true := by
  rw [List.drop_of_length_le h1]
  cases ks.drop i <;> rfl
def isNum (v : V) : Bool := (v.c == -1) && (withinB v.n 0 9 && decide (v.ks.length = 0))
/-- v is a value of type t, of depth d at most -/
def fitsV (xs : List Dt) : Nat → Ty → V → Bool
  | 0, _, _ => false
  | d + 1, t, v => if t.d = -1 then isNum v else (v.n == 0) && (hasB (ctorsL xs t) v.c && (decide (v.ks.length = (argsOf xs t v.c).length) && zipAll (fitsV xs d) (argsOf xs t v.c) v.ks))
theorem fitsV_int {xs : List Dt} {d : Nat} {t : Ty} {v : V} (h : t.d = -1) : fitsV xs (d + 1) t v = isNum v := by rw [fitsV, if_pos h]
theorem fitsV_data {xs : List Dt} {d : Nat} {t : Ty} {v : V} (h : ¬ t.d = -1) : fitsV xs (d + 1) t v = ((v.n == 0) && (hasB (ctorsL xs t) v.c && (decide (v.ks.length = (argsOf xs t v.c).length) && zipAll (fitsV xs d) (argsOf xs t v.c) v.ks))) := by rw [fitsV, if_neg h]
def valueOkB (xs : List Dt) (t : Ty) (v : V) : Bool := fitsV xs 10 t v && decide (nodes v ≤ 60)
def valueValidB (xs : List Dt) (t : Ty) (v : V) : Bool := typeValidB xs t && valueOkB xs t v
end Go.Proofs.YtilndhmegaccmaaGreatDoor

namespace Go.Proofs.YtilndhmegaccmaaGreatDoor
open Go.RowKit

set_option maxRecDepth 100000 in
set_option maxHeartbeats 1600000 in
theorem spec_l3Kids (op : Int) (h4 : ¬ op = 4) (w : World) : Calls Tryz.prog 80 #[.int .i64 op] w fun e w' => e = .returned (.int .i64 ((kidsN op : Nat) : Int)) ∧ w' = w := by
  have t4 : (op == 4) = false := by simpa using h4
  by_cases h5 : op = 5
  · subst h5
    go_enter Tryz.func80, Tryz.ntmps80
    go_wp2
    go_ret
    exact ⟨rfl, rfl⟩
  · have t5 : (op == 5) = false := by simpa using h5
    by_cases h6 : op = 6
    · subst h6
      go_enter Tryz.func80, Tryz.ntmps80
      go_wp2
      go_ret
      exact ⟨rfl, rfl⟩
    · have t6 : (op == 6) = false := by simpa using h6
      have hk : Hid (kidsN op = 0) := by unfold Hid kidsN; rw [if_neg h5, if_neg h6]
      go_enter Tryz.func80, Tryz.ntmps80
      go_wp2
      go_ret
      exact ⟨by rw [hk.out]; rfl, rfl⟩

set_option maxRecDepth 100000 in
set_option maxHeartbeats 1600000 in
theorem spec_l3Own (xs : List Dt) (hw : WorldOK xs) (t : Ty) (ht : TyIn xs.length t) (p : P) (w : World) (x : Value) (F : List Nat) (cs : List Value) (G : List Nat) : Arr w (DtR w) xs x F → Under w.heap.size F → PR w p cs G → Under w.heap.size G →
    Calls Tryz.prog 57 #[x, .agg #[.int .i64 t.d, .int .i64 t.i], .agg cs.toArray] w fun e w' => e = .returned (.bool (ownB xs t p)) ∧ Below w.heap.size w w' := by
  intro hx hf hv hg
  obtain ⟨kv, rfl, ha⟩ := (PR_iff _ _ _).1 hv
  obtain ⟨A, cap, rfl, hc1, hc2⟩ := hx.form
  obtain ⟨A4, cap4, rfl, hc3, hc4⟩ := ha.form
  have HV := Lib.hid hv
  have HX := Lib.hid hx
  have HF := Lib.hid hf
  have HA := Lib.hid ha
  have HG := Lib.hid hg
  clear hx hf ha hg
  clear hv
  have HW := Lib.hid hw
  have HT := Lib.hid ht.inWorld
  clear hw ht HA HG HV
  obtain ⟨op, ct, n, m, va, ks⟩ := p
  simp only at hc3 hc4 ⊢
  have HB : Hid (Below w.heap.size w ((w.alloc (.cells #[.int .i64 t.d, .int .i64 t.i] 33)).alloc (.cells #[.int .i64 op, .int .i64 ct, .int .i64 n, .int .i64 m, .int .i64 va, .slice A4 ks.length cap4] 37))) := ((Below.refl _ _).alloc (Nat.le_refl _) _).alloc (by simp) _
  by_cases o1 : op = 1
  · subst o1
    by_cases v1 : va = 0
    · have tv1 : (va != 0) = false := by simp [v1]
      by_cases n1 : n = 0
      · have tn1 : (n != 0) = false := by simp [n1]
        by_cases m1 : m = 0
        · have tm1 : (m != 0) = false := by simp [m1]
          by_cases c1 : ct = 0
          · have tc1 : (ct != 0) = false := by simp [c1]
            have hf : Hid (ownB xs t ⟨1, ct, n, m, va, ks⟩ = true) := by unfold Hid ownB namedB kindB; simp [v1, n1, m1, c1]
            go_enter Tryz.func57, Tryz.ntmps57
            go_wp2
            go_ret
            exact ⟨by subst_vars; exact ret_bool hf.out.symm, ((Below.refl _ _).alloc (Nat.le_refl _) _).alloc (by simp) _⟩
          · have tc1 : (ct != 0) = true := by simpa using c1
            have hf : Hid (ownB xs t ⟨1, ct, n, m, va, ks⟩ = false) := by unfold Hid ownB namedB kindB; simp [v1, n1, m1, c1]
            go_enter Tryz.func57, Tryz.ntmps57
            go_wp2
            go_ret
            exact ⟨by subst_vars; exact ret_bool hf.out.symm, ((Below.refl _ _).alloc (Nat.le_refl _) _).alloc (by simp) _⟩
        · have tm1 : (m != 0) = true := by simpa using m1
          have hf : Hid (ownB xs t ⟨1, ct, n, m, va, ks⟩ = false) := by unfold Hid ownB namedB kindB; simp [v1, m1]
          go_enter Tryz.func57, Tryz.ntmps57
          go_wp2
          go_ret
          exact ⟨by subst_vars; exact ret_bool hf.out.symm, ((Below.refl _ _).alloc (Nat.le_refl _) _).alloc (by simp) _⟩
      · have tn1 : (n != 0) = true := by simpa using n1
        have hf : Hid (ownB xs t ⟨1, ct, n, m, va, ks⟩ = false) := by unfold Hid ownB namedB kindB; simp [v1, n1]
        go_enter Tryz.func57, Tryz.ntmps57
        go_wp2
        go_ret
        exact ⟨by subst_vars; exact ret_bool hf.out.symm, ((Below.refl _ _).alloc (Nat.le_refl _) _).alloc (by simp) _⟩
    · have tv1 : (va != 0) = true := by simpa using v1
      have hf : Hid (ownB xs t ⟨1, ct, n, m, va, ks⟩ = false) := by unfold Hid ownB namedB kindB; simp [v1]
      go_enter Tryz.func57, Tryz.ntmps57
      go_wp2
      go_ret
      exact ⟨by subst_vars; exact ret_bool hf.out.symm, ((Below.refl _ _).alloc (Nat.le_refl _) _).alloc (by simp) _⟩
  have u1 : (op == 1) = false := by simpa using o1
  by_cases o2 : op = 2
  · subst o2
    by_cases v1 : va < 0
    · have tv1 : (decide (va < 0)) = true := by simpa using v1
      have v1x : ¬ 0 ≤ va := by omega
      have hf : Hid (ownB xs t ⟨2, ct, n, m, va, ks⟩ = false) := by unfold Hid ownB namedB kindB; simp [v1x]
      go_enter Tryz.func57, Tryz.ntmps57
      go_wp2
      go_ret
      exact ⟨by subst_vars; exact ret_bool hf.out.symm, ((Below.refl _ _).alloc (Nat.le_refl _) _).alloc (by simp) _⟩
    · have tv1 : (decide (va < 0)) = false := by simpa using v1
      by_cases v2 : 5 < va
      · have tv2 : (decide (va > 5)) = true := by simpa using v2
        have v2x : ¬ va ≤ 5 := by omega
        have hf : Hid (ownB xs t ⟨2, ct, n, m, va, ks⟩ = false) := by unfold Hid ownB namedB kindB; simp [v2x]
        go_enter Tryz.func57, Tryz.ntmps57
        go_wp2
        go_ret
        exact ⟨by subst_vars; exact ret_bool hf.out.symm, ((Below.refl _ _).alloc (Nat.le_refl _) _).alloc (by simp) _⟩
      · have tv2 : (decide (va > 5)) = false := by simpa using v2
        have v1x : 0 ≤ va := by omega
        have v2x : va ≤ 5 := by omega
        by_cases n1 : n = 0
        · have tn1 : (n != 0) = false := by simp [n1]
          by_cases m1 : m = 0
          · have tm1 : (m != 0) = false := by simp [m1]
            by_cases c1 : ct = 0
            · have tc1 : (ct != 0) = false := by simp [c1]
              have hf : Hid (ownB xs t ⟨2, ct, n, m, va, ks⟩ = true) := by unfold Hid ownB namedB kindB; simp [v1x, v2x, n1, m1, c1]
              go_enter Tryz.func57, Tryz.ntmps57
              go_wp2
              go_ret
              exact ⟨by subst_vars; exact ret_bool hf.out.symm, ((Below.refl _ _).alloc (Nat.le_refl _) _).alloc (by simp) _⟩
            · have tc1 : (ct != 0) = true := by simpa using c1
              have hf : Hid (ownB xs t ⟨2, ct, n, m, va, ks⟩ = false) := by unfold Hid ownB namedB kindB; simp [v1x, v2x, n1, m1, c1]
              go_enter Tryz.func57, Tryz.ntmps57
              go_wp2
              go_ret
              exact ⟨by subst_vars; exact ret_bool hf.out.symm, ((Below.refl _ _).alloc (Nat.le_refl _) _).alloc (by simp) _⟩
          · have tm1 : (m != 0) = true := by simpa using m1
            have hf : Hid (ownB xs t ⟨2, ct, n, m, va, ks⟩ = false) := by unfold Hid ownB namedB kindB; simp [v1x, v2x, m1]
            go_enter Tryz.func57, Tryz.ntmps57
            go_wp2
            go_ret
            exact ⟨by subst_vars; exact ret_bool hf.out.symm, ((Below.refl _ _).alloc (Nat.le_refl _) _).alloc (by simp) _⟩
        · have tn1 : (n != 0) = true := by simpa using n1
          have hf : Hid (ownB xs t ⟨2, ct, n, m, va, ks⟩ = false) := by unfold Hid ownB namedB kindB; simp [v1x, v2x, n1]
          go_enter Tryz.func57, Tryz.ntmps57
          go_wp2
          go_ret
          exact ⟨by subst_vars; exact ret_bool hf.out.symm, ((Below.refl _ _).alloc (Nat.le_refl _) _).alloc (by simp) _⟩
  have u2 : (op == 2) = false := by simpa using o2
  by_cases o3 : op = 3
  · subst o3
    by_cases v1 : va = 0
    · have tv1 : (va != 0) = false := by simp [v1]
      by_cases c1 : ct = 0
      · have tc1 : (ct != 0) = false := by simp [c1]
        by_cases a0 : t.d = -1
        · have b0 : (t.d == -1) = true := by simp [a0]
          by_cases a1 : 0 ≤ n
          · have b1 : decide (n ≥ 0) = true := by simpa using a1
            by_cases a2 : n ≤ m
            · have b2 : decide (n ≤ m) = true := by simpa using a2
              by_cases a3 : m ≤ 9
              · have b3 : decide (m ≤ 9) = true := by simpa using a3
                have hf : Hid (ownB xs t ⟨3, ct, n, m, va, ks⟩ = true) := by unfold Hid ownB namedB kindB; simp [v1, c1, a0, a1, a2, a3]
                go_enter Tryz.func57, Tryz.ntmps57
                go_wp2
                go_ret
                exact ⟨by subst_vars; exact ret_bool hf.out.symm, ((Below.refl _ _).alloc (Nat.le_refl _) _).alloc (by simp) _⟩
              · have b3 : decide (m ≤ 9) = false := by simpa using a3
                have hf : Hid (ownB xs t ⟨3, ct, n, m, va, ks⟩ = false) := by unfold Hid ownB namedB kindB; simp [v1, c1, a0, a1, a2, a3]
                go_enter Tryz.func57, Tryz.ntmps57
                go_wp2
                go_ret
                exact ⟨by subst_vars; exact ret_bool hf.out.symm, ((Below.refl _ _).alloc (Nat.le_refl _) _).alloc (by simp) _⟩
            · have b2 : decide (n ≤ m) = false := by simpa using a2
              have hf : Hid (ownB xs t ⟨3, ct, n, m, va, ks⟩ = false) := by unfold Hid ownB namedB kindB; simp [v1, c1, a2]
              go_enter Tryz.func57, Tryz.ntmps57
              go_wp2
              go_ret
              exact ⟨by subst_vars; exact ret_bool hf.out.symm, ((Below.refl _ _).alloc (Nat.le_refl _) _).alloc (by simp) _⟩
          · have b1 : decide (n ≥ 0) = false := by simpa using a1
            have hf : Hid (ownB xs t ⟨3, ct, n, m, va, ks⟩ = false) := by unfold Hid ownB namedB kindB; simp [v1, c1, a1]
            go_enter Tryz.func57, Tryz.ntmps57
            go_wp2
            go_ret
            exact ⟨by subst_vars; exact ret_bool hf.out.symm, ((Below.refl _ _).alloc (Nat.le_refl _) _).alloc (by simp) _⟩
        · have b0 : (t.d == -1) = false := by simpa using a0
          have hf : Hid (ownB xs t ⟨3, ct, n, m, va, ks⟩ = false) := by unfold Hid ownB namedB kindB; simp [v1, c1, a0]
          go_enter Tryz.func57, Tryz.ntmps57
          go_wp2
          go_ret
          exact ⟨by subst_vars; exact ret_bool hf.out.symm, ((Below.refl _ _).alloc (Nat.le_refl _) _).alloc (by simp) _⟩
      · have tc1 : (ct != 0) = true := by simpa using c1
        have hf : Hid (ownB xs t ⟨3, ct, n, m, va, ks⟩ = false) := by unfold Hid ownB namedB kindB; simp [v1, c1]
        go_enter Tryz.func57, Tryz.ntmps57
        go_wp2
        go_ret
        exact ⟨by subst_vars; exact ret_bool hf.out.symm, ((Below.refl _ _).alloc (Nat.le_refl _) _).alloc (by simp) _⟩
    · have tv1 : (va != 0) = true := by simpa using v1
      have hf : Hid (ownB xs t ⟨3, ct, n, m, va, ks⟩ = false) := by unfold Hid ownB namedB kindB; simp [v1]
      go_enter Tryz.func57, Tryz.ntmps57
      go_wp2
      go_ret
      exact ⟨by subst_vars; exact ret_bool hf.out.symm, ((Below.refl _ _).alloc (Nat.le_refl _) _).alloc (by simp) _⟩
  have u3 : (op == 3) = false := by simpa using o3
  by_cases o4 : op = 4
  · subst o4
    by_cases v1 : va = 0
    · have tv1 : (va != 0) = false := by simp [v1]
      by_cases n1 : n = 0
      · have tn1 : (n != 0) = false := by simp [n1]
        by_cases m1 : m = 0
        · have tm1 : (m != 0) = false := by simp [m1]
          have hf : Hid (ownB xs t ⟨4, ct, n, m, va, ks⟩ = hasB (ctorsL xs t) ct) := by unfold Hid ownB namedB kindB; simp [v1, n1, m1]
          subst_vars
          go_enter Tryz.func57, Tryz.ntmps57
          go_wp2_with fail
          obtain ⟨W2, hW2⟩ : ∃ W2, W2 = ((w.alloc (.cells #[.int .i64 t.d, .int .i64 t.i] 33)).alloc (.cells #[.int .i64 4, .int .i64 ct, .int .i64 0, .int .i64 0, .int .i64 0, .slice A4 ks.length cap4] 37)) := ⟨_, rfl⟩
          rw [← hW2] at HB
          have KT : Hid (Blk W2 w.heap.size 33 #[.int .i64 t.d, .int .i64 t.i]) := by rw [hW2]; exact (Blk.new w _ _).same (Below.heap_alloc _ _ _ (by simp))
          have KP : Hid (Blk W2 (w.heap.size + 1) 37 #[.int .i64 4, .int .i64 ct, .int .i64 0, .int .i64 0, .int .i64 0, .slice A4 ks.length cap4]) := by rw [hW2]; have h := Blk.new (w.alloc (.cells #[.int .i64 t.d, .int .i64 t.i] 33)) 37 #[.int .i64 4, .int .i64 ct, .int .i64 0, .int .i64 0, .int .i64 0, .slice A4 ks.length cap4]; rw [World.size_alloc] at h; exact h
          rw [← hW2]
          clear hW2
          have y0 : W2.cell? ⟨w.heap.size, 0, none⟩ = some (.int .i64 t.d) := (KT.out.cell 0).trans (by simp)
          have y1 : W2.cell? ⟨w.heap.size, 1, none⟩ = some (.int .i64 t.i) := (KT.out.cell 1).trans (by simp)
          have klt := KT.out.lt
          have z1 : W2.cell? ⟨w.heap.size + 1, 1, none⟩ = some (.int .i64 ct) := (KP.out.cell 1).trans (by simp)
          have klt2 := KP.out.lt
          have hB0 := HB.out
          have hkeep : ∀ U U' : World, (U.cell? ⟨w.heap.size, 0, none⟩ = some (.int .i64 t.d) ∧ U.cell? ⟨w.heap.size, 1, none⟩ = some (.int .i64 t.i) ∧ U.cell? ⟨w.heap.size + 1, 1, none⟩ = some (.int .i64 ct)) → Below U.heap.size U U' → W2.heap.size ≤ U.heap.size → (U'.cell? ⟨w.heap.size, 0, none⟩ = some (.int .i64 t.d) ∧ U'.cell? ⟨w.heap.size, 1, none⟩ = some (.int .i64 t.i) ∧ U'.cell? ⟨w.heap.size + 1, 1, none⟩ = some (.int .i64 ct)) := fun U U' h hUU hU => ⟨(hUU.cell (Nat.lt_of_lt_of_le (klt) hU)).trans h.1, (hUU.cell (Nat.lt_of_lt_of_le (klt) hU)).trans h.2.1, (hUU.cell (Nat.lt_of_lt_of_le (klt2) hU)).trans h.2.2⟩
          have HKeep := Lib.hid hkeep
          clear hkeep
          go_region_held3 (fun w' => w'.cell? ⟨w.heap.size, 0, none⟩ = some (.int .i64 t.d) ∧ w'.cell? ⟨w.heap.size, 1, none⟩ = some (.int .i64 t.i) ∧ w'.cell? ⟨w.heap.size + 1, 1, none⟩ = some (.int .i64 ct)) (first | assumption | (exact ⟨y0, y1, z1⟩) | (exact HKeep.out W2.drew w4 ⟨y0, y1, z1⟩ hb4 (Nat.le_refl _)) | (exact HKeep.out w4 w5 (by assumption) hb5 hlew4)) (first | (go_at_call 79; ((with_reducible refine (spec_l1Ctors xs t _ _ F (ArrDt.below HX.out hB0.drew HF.out) (HF.out.mono hB0.drew.size) HW.out HT.out).mono ?_); rintro e w4 ⟨v4, F4, rfl, hb4, ha4, -, hfs4⟩); have hlew4 : W2.heap.size ≤ w4.heap.size := hb4.size) | (go_at_call 78; ((with_reducible refine (spec_l1Has (ctorsL xs t) ct _ _ F4 ha4 hfs4.under).mono ?_); rintro e w5 ⟨rfl, hb5⟩)))
          have hBa := hB0.drew.trans (hb4.mono hB0.drew.size)
          have hB5 := hBa.trans (hb5.mono hBa.size)
          generalize hasB (ctorsL xs t) ct = r at *
          clear HKeep ha4 hfs4 hb4 hb5 hBa hB0 HB KT KP y0 y1 z1 klt klt2
          go_wp2
          go_ret
          exact ⟨ret_bool hf.out.symm, hB5⟩
        · have tm1 : (m != 0) = true := by simpa using m1
          have hf : Hid (ownB xs t ⟨4, ct, n, m, va, ks⟩ = false) := by unfold Hid ownB namedB kindB; simp [v1, m1]
          go_enter Tryz.func57, Tryz.ntmps57
          go_wp2
          go_ret
          exact ⟨by subst_vars; exact ret_bool hf.out.symm, ((Below.refl _ _).alloc (Nat.le_refl _) _).alloc (by simp) _⟩
      · have tn1 : (n != 0) = true := by simpa using n1
        have hf : Hid (ownB xs t ⟨4, ct, n, m, va, ks⟩ = false) := by unfold Hid ownB namedB kindB; simp [v1, n1]
        go_enter Tryz.func57, Tryz.ntmps57
        go_wp2
        go_ret
        exact ⟨by subst_vars; exact ret_bool hf.out.symm, ((Below.refl _ _).alloc (Nat.le_refl _) _).alloc (by simp) _⟩
    · have tv1 : (va != 0) = true := by simpa using v1
      have hf : Hid (ownB xs t ⟨4, ct, n, m, va, ks⟩ = false) := by unfold Hid ownB namedB kindB; simp [v1]
      go_enter Tryz.func57, Tryz.ntmps57
      go_wp2
      go_ret
      exact ⟨by subst_vars; exact ret_bool hf.out.symm, ((Below.refl _ _).alloc (Nat.le_refl _) _).alloc (by simp) _⟩
  have u4 : (op == 4) = false := by simpa using o4
  by_cases o5 : op = 5
  · subst o5
    by_cases v1 : va = 0
    · have tv1 : (va != 0) = false := by simp [v1]
      by_cases n1 : n = 0
      · have tn1 : (n != 0) = false := by simp [n1]
        by_cases m1 : m = 0
        · have tm1 : (m != 0) = false := by simp [m1]
          by_cases c1 : ct = 0
          · have tc1 : (ct != 0) = false := by simp [c1]
            have hf : Hid (ownB xs t ⟨5, ct, n, m, va, ks⟩ = true) := by unfold Hid ownB namedB kindB; simp [v1, n1, m1, c1]
            go_enter Tryz.func57, Tryz.ntmps57
            go_wp2
            go_ret
            exact ⟨by subst_vars; exact ret_bool hf.out.symm, ((Below.refl _ _).alloc (Nat.le_refl _) _).alloc (by simp) _⟩
          · have tc1 : (ct != 0) = true := by simpa using c1
            have hf : Hid (ownB xs t ⟨5, ct, n, m, va, ks⟩ = false) := by unfold Hid ownB namedB kindB; simp [v1, n1, m1, c1]
            go_enter Tryz.func57, Tryz.ntmps57
            go_wp2
            go_ret
            exact ⟨by subst_vars; exact ret_bool hf.out.symm, ((Below.refl _ _).alloc (Nat.le_refl _) _).alloc (by simp) _⟩
        · have tm1 : (m != 0) = true := by simpa using m1
          have hf : Hid (ownB xs t ⟨5, ct, n, m, va, ks⟩ = false) := by unfold Hid ownB namedB kindB; simp [v1, m1]
          go_enter Tryz.func57, Tryz.ntmps57
          go_wp2
          go_ret
          exact ⟨by subst_vars; exact ret_bool hf.out.symm, ((Below.refl _ _).alloc (Nat.le_refl _) _).alloc (by simp) _⟩
      · have tn1 : (n != 0) = true := by simpa using n1
        have hf : Hid (ownB xs t ⟨5, ct, n, m, va, ks⟩ = false) := by unfold Hid ownB namedB kindB; simp [v1, n1]
        go_enter Tryz.func57, Tryz.ntmps57
        go_wp2
        go_ret
        exact ⟨by subst_vars; exact ret_bool hf.out.symm, ((Below.refl _ _).alloc (Nat.le_refl _) _).alloc (by simp) _⟩
    · have tv1 : (va != 0) = true := by simpa using v1
      have hf : Hid (ownB xs t ⟨5, ct, n, m, va, ks⟩ = false) := by unfold Hid ownB namedB kindB; simp [v1]
      go_enter Tryz.func57, Tryz.ntmps57
      go_wp2
      go_ret
      exact ⟨by subst_vars; exact ret_bool hf.out.symm, ((Below.refl _ _).alloc (Nat.le_refl _) _).alloc (by simp) _⟩
  have u5 : (op == 5) = false := by simpa using o5
  by_cases o6 : op = 6
  · subst o6
    by_cases v1 : va < 0
    · have tv1 : (decide (va < 0)) = true := by simpa using v1
      have v1x : ¬ 0 ≤ va := by omega
      have hf : Hid (ownB xs t ⟨6, ct, n, m, va, ks⟩ = false) := by unfold Hid ownB namedB kindB; simp [v1x]
      go_enter Tryz.func57, Tryz.ntmps57
      go_wp2
      go_ret
      exact ⟨by subst_vars; exact ret_bool hf.out.symm, ((Below.refl _ _).alloc (Nat.le_refl _) _).alloc (by simp) _⟩
    · have tv1 : (decide (va < 0)) = false := by simpa using v1
      by_cases v2 : 5 < va
      · have tv2 : (decide (va > 5)) = true := by simpa using v2
        have v2x : ¬ va ≤ 5 := by omega
        have hf : Hid (ownB xs t ⟨6, ct, n, m, va, ks⟩ = false) := by unfold Hid ownB namedB kindB; simp [v2x]
        go_enter Tryz.func57, Tryz.ntmps57
        go_wp2
        go_ret
        exact ⟨by subst_vars; exact ret_bool hf.out.symm, ((Below.refl _ _).alloc (Nat.le_refl _) _).alloc (by simp) _⟩
      · have tv2 : (decide (va > 5)) = false := by simpa using v2
        have v1x : 0 ≤ va := by omega
        have v2x : va ≤ 5 := by omega
        by_cases n1 : n = 0
        · have tn1 : (n != 0) = false := by simp [n1]
          by_cases m1 : m = 0
          · have tm1 : (m != 0) = false := by simp [m1]
            by_cases c1 : ct = 0
            · have tc1 : (ct != 0) = false := by simp [c1]
              have hf : Hid (ownB xs t ⟨6, ct, n, m, va, ks⟩ = true) := by unfold Hid ownB namedB kindB; simp [v1x, v2x, n1, m1, c1]
              go_enter Tryz.func57, Tryz.ntmps57
              go_wp2
              go_ret
              exact ⟨by subst_vars; exact ret_bool hf.out.symm, ((Below.refl _ _).alloc (Nat.le_refl _) _).alloc (by simp) _⟩
            · have tc1 : (ct != 0) = true := by simpa using c1
              have hf : Hid (ownB xs t ⟨6, ct, n, m, va, ks⟩ = false) := by unfold Hid ownB namedB kindB; simp [v1x, v2x, n1, m1, c1]
              go_enter Tryz.func57, Tryz.ntmps57
              go_wp2
              go_ret
              exact ⟨by subst_vars; exact ret_bool hf.out.symm, ((Below.refl _ _).alloc (Nat.le_refl _) _).alloc (by simp) _⟩
          · have tm1 : (m != 0) = true := by simpa using m1
            have hf : Hid (ownB xs t ⟨6, ct, n, m, va, ks⟩ = false) := by unfold Hid ownB namedB kindB; simp [v1x, v2x, m1]
            go_enter Tryz.func57, Tryz.ntmps57
            go_wp2
            go_ret
            exact ⟨by subst_vars; exact ret_bool hf.out.symm, ((Below.refl _ _).alloc (Nat.le_refl _) _).alloc (by simp) _⟩
        · have tn1 : (n != 0) = true := by simpa using n1
          have hf : Hid (ownB xs t ⟨6, ct, n, m, va, ks⟩ = false) := by unfold Hid ownB namedB kindB; simp [v1x, v2x, n1]
          go_enter Tryz.func57, Tryz.ntmps57
          go_wp2
          go_ret
          exact ⟨by subst_vars; exact ret_bool hf.out.symm, ((Below.refl _ _).alloc (Nat.le_refl _) _).alloc (by simp) _⟩
  have u6 : (op == 6) = false := by simpa using o6
  have un3 : (op != 3) = true := by simpa using o3
  have un4 : (op != 4) = true := by simpa using o4
  by_cases v1 : va = 0
  · have tv1 : (va != 0) = false := by simp [v1]
    by_cases n1 : n = 0
    · have tn1 : (n != 0) = false := by simp [n1]
      by_cases m1 : m = 0
      · have tm1 : (m != 0) = false := by simp [m1]
        by_cases c1 : ct = 0
        · have tc1 : (ct != 0) = false := by simp [c1]
          have hf : Hid (ownB xs t ⟨op, ct, n, m, va, ks⟩ = false) := by unfold Hid ownB namedB kindB; simp [o1, o2, o3, o4, o5, o6, v1, n1, m1, c1]
          go_enter Tryz.func57, Tryz.ntmps57
          go_wp2
          go_ret
          exact ⟨by subst_vars; exact ret_bool hf.out.symm, ((Below.refl _ _).alloc (Nat.le_refl _) _).alloc (by simp) _⟩
        · have tc1 : (ct != 0) = true := by simpa using c1
          have hf : Hid (ownB xs t ⟨op, ct, n, m, va, ks⟩ = false) := by unfold Hid ownB namedB kindB; simp [o1, o2, o3, o4, o5, o6, v1, n1, m1, c1]
          go_enter Tryz.func57, Tryz.ntmps57
          go_wp2
          go_ret
          exact ⟨by subst_vars; exact ret_bool hf.out.symm, ((Below.refl _ _).alloc (Nat.le_refl _) _).alloc (by simp) _⟩
      · have tm1 : (m != 0) = true := by simpa using m1
        have hf : Hid (ownB xs t ⟨op, ct, n, m, va, ks⟩ = false) := by unfold Hid ownB namedB kindB; simp [o1, o2, o3, o4, o5, o6, v1, m1]
        go_enter Tryz.func57, Tryz.ntmps57
        go_wp2
        go_ret
        exact ⟨by subst_vars; exact ret_bool hf.out.symm, ((Below.refl _ _).alloc (Nat.le_refl _) _).alloc (by simp) _⟩
    · have tn1 : (n != 0) = true := by simpa using n1
      have hf : Hid (ownB xs t ⟨op, ct, n, m, va, ks⟩ = false) := by unfold Hid ownB namedB kindB; simp [o1, o2, o3, o4, o5, o6, v1, n1]
      go_enter Tryz.func57, Tryz.ntmps57
      go_wp2
      go_ret
      exact ⟨by subst_vars; exact ret_bool hf.out.symm, ((Below.refl _ _).alloc (Nat.le_refl _) _).alloc (by simp) _⟩
  · have tv1 : (va != 0) = true := by simpa using v1
    have hf : Hid (ownB xs t ⟨op, ct, n, m, va, ks⟩ = false) := by unfold Hid ownB namedB kindB; simp [o1, o2, o3, o4, o5, o6, v1]
    go_enter Tryz.func57, Tryz.ntmps57
    go_wp2
    go_ret
    exact ⟨by subst_vars; exact ret_bool hf.out.symm, ((Below.refl _ _).alloc (Nat.le_refl _) _).alloc (by simp) _⟩

def repTo (t : Ty) (i : Nat) : List Ty := List.replicate i t
theorem repTo_len (t : Ty) (i : Nat) : (repTo t i).length = i := List.length_replicate
theorem repTo_succ (t : Ty) (i : Nat) : repTo t (i + 1) = repTo t i ++ [t] := List.replicate_succ'
theorem kidsN_le (op : Int) : kidsN op ≤ 2 := by unfold kidsN; split; omega; split <;> omega
theorem typesP_no {xs : List Dt} {t : Ty} {p : P} (h : ¬ p.op = 4) : typesP xs t p = repTo t (kidsN p.op) := by unfold typesP; rw [if_neg h]; rfl
theorem ownB_ctor {xs : List Dt} {t : Ty} {p : P} (h : p.op = 4) (ho : ownB xs t p = true) : p.ct ∈ ctorsL xs t := by
  unfold ownB kindB at ho
  simp only [Bool.and_eq_true] at ho
  have h2 := ho.2.2.2
  rw [if_neg (by omega), if_pos h] at h2
  exact (hasB_iff _ _).1 h2
set_option maxRecDepth 100000 in
set_option maxHeartbeats 1600000 in
theorem spec_l3Types (xs : List Dt) (hw : WorldOK xs) (t : Ty) (ht : TyIn xs.length t) (p : P) (ho : ownB xs t p = true) (w : World) (x : Value) (F : List Nat) (cs : List Value) (G : List Nat) : Arr w (DtR w) xs x F → Under w.heap.size F → PR w p cs G → Under w.heap.size G →
    Calls Tryz.prog 58 #[x, .agg #[.int .i64 t.d, .int .i64 t.i], .agg cs.toArray] w (MadeArr TyR w (typesP xs t p)) := by
  intro hx hf hv hg
  obtain ⟨kv, rfl, ha⟩ := (PR_iff _ _ _).1 hv
  obtain ⟨A, cap, rfl, hc1, hc2⟩ := hx.form
  obtain ⟨A4, cap4, rfl, hc3, hc4⟩ := ha.form
  have HV := Lib.hid hv
  have HX := Lib.hid hx
  have HF := Lib.hid hf
  have HA := Lib.hid ha
  have HG := Lib.hid hg
  clear hx hf ha hg
  clear hv
  by_cases h4 : p.op = 4
  · have t4 : (p.op == 4) = true := by simp [h4]
    obtain ⟨q, k, e2, hvc, hq', hkl⟩ := mem_ctorsL (xs := xs) (t := t) ht.inWorld (ownB_ctor h4 ho)
    have hty : typesP xs t p = argsL xs[q].ctors[k] t.i := by
      unfold typesP
      rw [if_pos h4, hvc]
      obtain ⟨td, ti⟩ := t
      simp only at e2
      subst e2
      exact argsOf_get hq' hkl
    have HTY := Lib.hid hty
    have HVC := Lib.hid hvc
    have HE2 := Lib.hid e2
    have HLA := Lib.hid (hw.ctor hq' hkl).args
    clear hty hvc e2 h4 ho hw ht
    go_enter Tryz.func58, Tryz.ntmps58
    go_wp2_with fail
    obtain ⟨W2, hW2⟩ : ∃ W2, W2 = ((w.alloc (.cells #[.int .i64 t.d, .int .i64 t.i] 33)).alloc (.cells #[.int .i64 p.op, .int .i64 p.ct, .int .i64 p.n, .int .i64 p.m, .int .i64 p.va, .slice A4 p.ks.length cap4] 37)) := ⟨_, rfl⟩
    have hB0 : Below w.heap.size w W2 := by rw [hW2]; exact ((Below.refl _ _).alloc (Nat.le_refl _) _).alloc (by simp) _
    have KT : Hid (Blk W2 w.heap.size 33 #[.int .i64 t.d, .int .i64 t.i]) := by rw [hW2]; exact (Blk.new w _ _).same (Below.heap_alloc _ _ _ (by simp))
    have KP : Hid (Blk W2 (w.heap.size + 1) 37 #[.int .i64 p.op, .int .i64 p.ct, .int .i64 p.n, .int .i64 p.m, .int .i64 p.va, .slice A4 p.ks.length cap4]) := by rw [hW2]; have h := Blk.new (w.alloc (.cells #[.int .i64 t.d, .int .i64 t.i] 33)) 37 #[.int .i64 p.op, .int .i64 p.ct, .int .i64 p.n, .int .i64 p.m, .int .i64 p.va, .slice A4 p.ks.length cap4]; rw [World.size_alloc] at h; exact h
    have hws : w.heap.size + 2 ≤ W2.heap.size := by rw [hW2]; simp
    have hws2 : W2.heap.size = w.heap.size + 1 + 1 := by rw [hW2]; simp
    rw [← hW2]
    clear hW2
    have y0 : W2.cell? ⟨w.heap.size, 0, none⟩ = some (.int .i64 t.d) := (KT.out.cell 0).trans (by simp)
    have y1 : W2.cell? ⟨w.heap.size, 1, none⟩ = some (.int .i64 t.i) := (KT.out.cell 1).trans (by simp)
    have klt := KT.out.lt
    have z0 : W2.cell? ⟨w.heap.size + 1, 0, none⟩ = some (.int .i64 p.op) := (KP.out.cell 0).trans (by simp)
    have z1 : W2.cell? ⟨w.heap.size + 1, 1, none⟩ = some (.int .i64 p.ct) := (KP.out.cell 1).trans (by simp)
    have klt2 := KP.out.lt
    go_wp2_with fail
    rw [HVC.out, HE2.out]
    refine (spec_l1Args xs q k t.i hq' hkl W2 _ F (ArrDt.below HX.out hB0 HF.out) (HF.out.mono hB0.size) HLA.out).mono ?_
    rintro e w6 ⟨v6, F6, rfl, hb6, ha6, hfr6, hfs6⟩
    have hfin : MadeArr TyR w (typesP xs t p) (.returned v6) w6 := ⟨v6, F6, rfl, hB0.trans (hb6.mono hB0.size), by rw [HTY.out]; exact ha6, hfr6, fun b hb => ⟨Nat.le_trans hB0.size (hfs6 b hb).1, (hfs6 b hb).2⟩⟩
    have HFin := Lib.hid hfin
    clear hfin ha6 hfr6 hfs6 hb6 y0 y1 z0 z1 klt klt2 t4
    go_wp2
    go_ret
    exact HFin.out
  · have t4 : (p.op == 4) = false := by simpa using h4
    obtain ⟨i0, hi, hz0, hz1, hz2⟩ := info_parts info_tyE
    have HI := Lib.hid hi
    have HZ0 := Lib.hid hz0
    have HZ1 := Lib.hid hz1
    have HZ2 := Lib.hid hz2
    clear hi hz0 hz1 hz2
    have HTY := Lib.hid (typesP_no (xs := xs) (t := t) h4)
    have H4 := Lib.hid h4
    have hk2 := kidsN_le p.op
    generalize hkn : kidsN p.op = kn at *
    have HKN := Lib.hid hkn
    clear h4 ho hw ht hkn
    have hws9 : (((w.alloc (.cells #[.int .i64 t.d, .int .i64 t.i] 33)).alloc (.cells #[.int .i64 p.op, .int .i64 p.ct, .int .i64 p.n, .int .i64 p.m, .int .i64 p.va, .slice A4 p.ks.length cap4] 37)).alloc (.cells #[] 33)).heap.size = w.heap.size + 3 := by simp
    go_enter Tryz.func58, Tryz.ntmps58
    go_wp2
    obtain ⟨w9, hw9⟩ : ∃ w9, w9 = ((w.alloc (.cells #[.int .i64 t.d, .int .i64 t.i] 33)).alloc (.cells #[.int .i64 p.op, .int .i64 p.ct, .int .i64 p.n, .int .i64 p.m, .int .i64 p.va, .slice A4 p.ks.length cap4] 37)).alloc (.cells #[] 33) := ⟨_, rfl⟩
    have hB0 : Below w.heap.size w w9 := by rw [hw9]; exact (((Below.refl _ _).alloc (Nat.le_refl _) _).alloc (by simp) _).alloc (by simp; omega) _
    have KT : Hid (Blk w9 w.heap.size 33 #[.int .i64 t.d, .int .i64 t.i]) := by rw [hw9]; exact ((Blk.new w _ _).same (Below.heap_alloc _ _ _ (by simp))).same (Below.heap_alloc _ _ _ (by simp; omega))
    have KP : Hid (Blk w9 (w.heap.size + 1) 37 #[.int .i64 p.op, .int .i64 p.ct, .int .i64 p.n, .int .i64 p.m, .int .i64 p.va, .slice A4 p.ks.length cap4]) := by rw [hw9]; have h := Blk.new (w.alloc (.cells #[.int .i64 t.d, .int .i64 t.i] 33)) 37 #[.int .i64 p.op, .int .i64 p.ct, .int .i64 p.n, .int .i64 p.m, .int .i64 p.va, .slice A4 p.ks.length cap4]; rw [World.size_alloc] at h; exact h.same (Below.heap_alloc _ _ _ (by simp))
    have HO : Hid (Own w9 (w.heap.size + 2) 33 2 TyR (repTo t 0) (.slice (some ⟨w.heap.size + 2, 0, none⟩) 0 0) []) := by
      rw [hw9]
      have h := Own.made ((w.alloc (.cells #[.int .i64 t.d, .int .i64 t.i] 33)).alloc (.cells #[.int .i64 p.op, .int .i64 p.ct, .int .i64 p.n, .int .i64 p.m, .int .i64 p.va, .slice A4 p.ks.length cap4] 37)) (w.heap.size + 2) 33 2 TyR #[] 0 (by simp) (by simp [maxLen]) rfl
      rw [show ((w.alloc (.cells #[.int .i64 t.d, .int .i64 t.i] 33)).alloc (.cells #[.int .i64 p.op, .int .i64 p.ct, .int .i64 p.n, .int .i64 p.m, .int .i64 p.va, .slice A4 p.ks.length cap4] 37)).heap.size = w.heap.size + 2 from by simp] at h
      exact h
    rw [← hw9] at hws9 ⊢
    clear hw9
    go_loopw [7, 8] (fun ov iv wr => ∃ i : Nat, i ≤ kn ∧ iv = .int .i64 i ∧ Hid (Own wr (w.heap.size + 2) 33 2 TyR (repTo t i) ov []) ∧ Hid (Blk wr w.heap.size 33 #[.int .i64 t.d, .int .i64 t.i]) ∧ Hid (Blk wr (w.heap.size + 1) 37 #[.int .i64 p.op, .int .i64 p.ct, .int .i64 p.n, .int .i64 p.m, .int .i64 p.va, .slice A4 p.ks.length cap4]) ∧ Below w.heap.size w wr ∧ w.heap.size + 2 ≤ wr.heap.size) (fun _ iv _ => kn - (intOf iv).toNat)
    case atStart => exact ⟨0, Nat.zero_le _, rfl, HO, KT, KP, hB0, by omega⟩
    case round =>
      clear hB0 KT KP HO hws9
      obtain ⟨i, hi, rfl, HO, KT, KP, hB, hsz⟩ := hrel
      obtain ⟨kA, kcap, hkv, hkc1, hkc2⟩ := HO.out.form
      subst hkv
      have y0 : wr.cell? ⟨w.heap.size, 0, none⟩ = some (.int .i64 t.d) := (KT.out.cell 0).trans (by simp)
      have y1 : wr.cell? ⟨w.heap.size, 1, none⟩ = some (.int .i64 t.i) := (KT.out.cell 1).trans (by simp)
      have klt := KT.out.lt
      have z0 : wr.cell? ⟨w.heap.size + 1, 0, none⟩ = some (.int .i64 p.op) := (KP.out.cell 0).trans (by simp)
      have klt2 := KP.out.lt
      have HRL := Lib.hid (repTo_len t i)
      go_wp2_with fail
      refine (spec_l3Kids p.op H4.out wr).mono ?_
      rintro e w' ⟨rfl, hw'⟩
      rw [hw', HKN.out]
      clear hw' w'
      by_cases hil : i < kn
      · have t1 : decide ((i : Int) < (kn : Int)) = true := by simp; omega
        have hB1 : Below wr.heap.size wr wr := Below.refl _ _
        have HF2 := Lib.hid (repTo_succ t i)
        go_wp2_with (at_builtin; refine Halt.mk ?_)
        refine Halt.of (wpList_push1 (P := Tryz.prog) rfl _ _ 58 rfl i0 _ 16 Tryz.underlying58 HI.out HZ0.out HZ1.out HZ2.out rfl (by decide) TyR_len' TyR_mono' (by rfl) HO.out t 33 [.int .i64 t.d, .int .i64 t.i] [] wr.heap.size (by rfl) rfl (by simp [Value.oneCell']) ⟨rfl, rfl⟩ (Under.nil _) (fun _ _ h => by cases h) (by have := HRL.out; unfold maxLen; omega) (by have := HRL.out; omega) hsz ?_)
        intro g cp w3 hown3 hgr3 hat3
        have hrow := HO.out.row
        have hba : Below wr.heap.size wr (wr.alloc (.cells #[.int .i64 t.d, .int .i64 t.i] 33)) := (Below.refl _ _).alloc (Nat.le_refl _) _
        have hB3 : Below (w.heap.size + 2) wr w3 := (hba.mono hsz).grown hgr3 (by simp; omega) (fun g hg => (hrow g (mem_rowOf.2 hg)).1)
        have HO3 := Lib.hid hown3
        have KT3 := Lib.hid (KT.out.same (hB3.block _ (by omega)))
        have KP3 := Lib.hid (KP.out.same (hB3.block _ (by omega)))
        have hB4 := hB.trans (hB3.mono (by omega))
        have hsz4 := Nat.le_trans hsz hB3.size
        clear hrow hba hB3 hown3 hgr3 hat3 y0 y1 z0 klt klt2
        go_wp2
        go_roundw
        case rel => exact ⟨i + 1, by omega, by go_num, by rw [HF2.out]; exact HO3.out, KT3, KP3, hB4, hsz4⟩
        case measure => (simp [intOf] <;> omega)
      · have t1 : decide ((i : Int) < (kn : Int)) = false := by simp; omega
        obtain rfl : i = kn := by omega
        have HFin : Hid (MadeArr TyR w (typesP xs t p) (.returned (.slice kA (repTo t i).length kcap)) wr) := by rw [HTY.out]; exact Own.gives HO.out hB (by omega) (fun b hb => by cases hb) (Free.nil _)
        go_wp2
        go_ret
        exact HFin.out
end Go.Proofs.YtilndhmegaccmaaGreatDoor

namespace Go.Proofs.YtilndhmegaccmaaGreatDoor
open Go.RowKit

def isLeast (xs : List Dt) (t : Ty) (k : Int) : Bool := mostIn xs (tableL xs) t k == depthIn (tableL xs) t
def leastV (xs : List Dt) : Nat → Ty → V
  | 0, _ => ⟨0, 0, []⟩
  | n + 1, t => if t.d = -1 then ⟨-1, 0, []⟩ else match (ctorsL xs t).find? (isLeast xs t) with
    | none => ⟨0, 0, []⟩
    | some k => ⟨k, 0, (argsOf xs t k).map (leastV xs n)⟩
theorem leastV_int {xs : List Dt} {n : Nat} {t : Ty} (h : t.d = -1) : leastV xs (n + 1) t = ⟨-1, 0, []⟩ := by rw [leastV, if_pos h]
theorem leastV_none {xs : List Dt} {n : Nat} {t : Ty} (h : ¬ t.d = -1) (h2 : (ctorsL xs t).find? (isLeast xs t) = none) : leastV xs (n + 1) t = ⟨0, 0, []⟩ := by rw [leastV, if_neg h, h2]
theorem leastV_some {xs : List Dt} {n : Nat} {t : Ty} {k : Int} (h : ¬ t.d = -1) (h2 : (ctorsL xs t).find? (isLeast xs t) = some k) : leastV xs (n + 1) t = ⟨k, 0, (argsOf xs t k).map (leastV xs n)⟩ := by rw [leastV, if_neg h, h2]
theorem find_step {p : Int → Bool} {l : List Int} {i : Nat} (h : i < l.length) : (l.drop i).find? p = if p l[i] = true then some l[i] else (l.drop (i + 1)).find? p := by
  rw [List.drop_eq_getElem_cons h, List.find?_cons]
  cases p l[i] <;> simp
theorem find_end {p : Int → Bool} {l : List Int} {i : Nat} (h : l.length ≤ i) : (l.drop i).find? p = none := by
  rw [List.drop_of_length_le h]; rfl
/-- the arguments of a least constructor are less deep -/
theorem least_args {xs : List Dt} (hw : WorldOK xs) {t : Ty} (ht : TyIn xs.length t) {k : Int} (hk : k ∈ ctorsL xs t) (hl : isLeast xs t k = true) (h0 : depthIn (tableL xs) t ≠ 0) {a : Ty} (ha : a ∈ argsOf xs t k) :
    TyIn xs.length a ∧ depthIn (tableL xs) a ≠ 0 ∧ depthIn (tableL xs) a + 1 ≤ depthIn (tableL xs) t := by
  have e : mostIn xs (tableL xs) t k = depthIn (tableL xs) t := by unfold isLeast at hl; exact eq_of_beq hl
  have hs := sound_tableL hw
  have hne := mostGo_ne (tab := tableL xs) (ls := argsOf xs t k) (m := 0) (by show mostIn xs (tableL xs) t k ≠ 0; rw [e]; exact h0)
  have hp := (mostGo_pos hs.dpos (Int.le_refl 0) hne).2 a ha
  have h2 : mostGo (tableL xs) 0 (argsOf xs t k) = mostIn xs (tableL xs) t k := rfl
  exact ⟨argsOf_in hw ht hk ha, hne a ha, by omega⟩
theorem argsOf_len3 {xs : List Dt} (hw : WorldOK xs) {t : Ty} (ht : TyIn xs.length t) {k : Int} (hk : k ∈ ctorsL xs t) : (argsOf xs t k).length ≤ 3 := by
  rcases ht with h | ⟨d, i, rfl, h1, h2⟩
  · rw [ctorsL_int h] at hk; cases hk
  · obtain ⟨d', m, e1, rfl, hd, hm⟩ := mem_ctorsL (.inr ⟨d, rfl, h1⟩) hk
    obtain rfl : d = d' := Int.ofNat.inj e1
    rw [argsOf_get hd hm, argsL_len]
    exact (hw.ctor hd hm).args
theorem sizes_map_le {α : Type} (f : α → V) (b : Nat) : ∀ (l : List α), (∀ a ∈ l, nodes (f a) ≤ b) → V.sizes (l.map f) ≤ l.length * b
  | [], _ => by simp [V.sizes]
  | a :: l, h => by
    have h1 := h a (by simp)
    have h2 := sizes_map_le f b l fun x hx => h x (by simp [hx])
    simp only [List.map_cons, V.sizes, List.length_cons]
    unfold nodes at h1
    rw [Nat.add_mul]
    omega
theorem leastV_nodes {xs : List Dt} (hw : WorldOK xs) : ∀ (n : Nat) (t : Ty), TyIn xs.length t → nodes (leastV xs n t) ≤ 4 ^ n
  | 0, t, _ => by simp [leastV, nodes, V.size, V.sizes]
  | n + 1, t, ht => by
    have hp : 1 ≤ 4 ^ n := Nat.one_le_pow _ _ (by omega)
    have h4 : 4 ^ (n + 1) = 4 ^ n * 4 := Nat.pow_succ ..
    by_cases hd : t.d = -1
    · rw [leastV_int hd]; simp [nodes, V.size, V.sizes]; omega
    · cases hf : (ctorsL xs t).find? (isLeast xs t) with
      | none => rw [leastV_none hd hf]; simp [nodes, V.size, V.sizes]; omega
      | some k =>
        rw [leastV_some hd hf]
        have hk := List.mem_of_find?_eq_some hf
        have h1 := sizes_map_le (leastV xs n) (4 ^ n) (argsOf xs t k) fun a ha => leastV_nodes hw n a (argsOf_in hw ht hk ha)
        have h3 := argsOf_len3 hw ht hk
        have h5 : (argsOf xs t k).length * 4 ^ n ≤ 3 * 4 ^ n := Nat.mul_le_mul_right _ h3
        rw [nodes_ks]
        simp only
        omega
theorem leastV_small {xs : List Dt} (hw : WorldOK xs) {n : Nat} (hn : n ≤ 10) {t : Ty} (ht : TyIn xs.length t) : (leastV xs n t).size ≤ 1048576 := by
  have h1 := leastV_nodes hw n t ht
  have h2 : 4 ^ n ≤ 4 ^ 10 := Nat.pow_le_pow_right (by omega) hn
  have h3 : (4 : Nat) ^ 10 = 1048576 := by decide
  unfold nodes at h1
  omega
/-- the kids made so far -/
def leastTo (xs : List Dt) (n : Nat) (as' : List Ty) (i : Nat) : List V := (as'.take i).map (leastV xs n)
theorem leastTo_succ (xs : List Dt) (n : Nat) (l : List Ty) (i : Nat) (h : i < l.length) : leastTo xs n l (i + 1) = leastTo xs n l i ++ [leastV xs n l[i]] := by
  unfold leastTo
  rw [take_snoc' l i h, List.map_append]; rfl
theorem leastTo_all (xs : List Dt) (n : Nat) (l : List Ty) {i : Nat} (h : l.length ≤ i) : leastTo xs n l i = l.map (leastV xs n) := by unfold leastTo; rw [List.take_of_length_le h]
theorem leastTo_len (xs : List Dt) (n : Nat) (l : List Ty) (i : Nat) : (leastTo xs n l i).length ≤ i := by unfold leastTo; rw [List.length_map, List.length_take]; omega
/-- what LeastValue gives -/
def leastFine (xs : List Dt) (t : Ty) : Bool := typeValidB xs t && (withinB (depthIn (tableL xs) t) 1 10 && valueOkB xs t (leastV xs 10 t))
def leastR (xs : List Dt) (t : Ty) : V := if leastFine xs t = true then leastV xs 10 t else ⟨0, 0, []⟩
theorem leastR_size (xs : List Dt) (t : Ty) : (leastR xs t).size ≤ 60 := by
  unfold leastR
  split
  · rename_i h
    unfold leastFine valueOkB nodes at h
    simp only [Bool.and_eq_true, decide_eq_true_eq] at h
    omega
  · simp [V.size, V.sizes]
end Go.Proofs.YtilndhmegaccmaaGreatDoor

namespace Go.Proofs.YtilndhmegaccmaaGreatDoor
open Go.RowKit

def allP (f : Ty → P → Bool) (ls : List Ty) (ks : List P) : Bool := (ls.zip ks).all fun x => f x.1 x.2
theorem allP_step {f : Ty → P → Bool} {ls : List Ty} {ks : List P} {i : Nat} (h1 : i < ls.length) (h2 : i < ks.length) : allP f (ls.drop i) (ks.drop i) = (f ls[i] ks[i] && allP f (ls.drop (i + 1)) (ks.drop (i + 1))) := by
  rw [List.drop_eq_getElem_cons h1, List.drop_eq_getElem_cons h2]; rfl
theorem allP_end {f : Ty → P → Bool} {ls : List Ty} {ks : List P} {i : Nat} (h1 : ls.length ≤ i) : allP f (ls.drop i) (ks.drop i) = true := by
  rw [List.drop_of_length_le h1]; rfl
theorem shapeB_succ (xs : List Dt) (d : Nat) (t : Ty) (p : P) : shapeB xs (d + 1) t p = (ownB xs t p && (p.ks.length == (typesP xs t p).length && allP (shapeB xs d) (typesP xs t p) p.ks)) := rfl
theorem typesP_in {xs : List Dt} (hw : WorldOK xs) {t : Ty} (ht : TyIn xs.length t) {p : P} (ho : ownB xs t p = true) : ∀ a ∈ typesP xs t p, TyIn xs.length a := fun a ha => by
  by_cases h4 : p.op = 4
  · unfold typesP at ha
    rw [if_pos h4] at ha
    exact argsOf_in hw ht (ownB_ctor h4 ho) ha
  · rw [typesP_no h4] at ha
    have := List.eq_of_mem_replicate ha
    rw [this]; exact ht
theorem typesP_len {xs : List Dt} (hw : WorldOK xs) {t : Ty} (ht : TyIn xs.length t) {p : P} (ho : ownB xs t p = true) : (typesP xs t p).length ≤ 3 := by
  by_cases h4 : p.op = 4
  · unfold typesP
    rw [if_pos h4]
    exact argsOf_len3 hw ht (ownB_ctor h4 ho)
  · rw [typesP_no h4, repTo_len]
    have := kidsN_le p.op
    omega

/-- contract of l3Shape at one pattern -/
def ShapeS (p : P) : Prop := ∀ (xs : List Dt) (_ : WorldOK xs) (d : Nat) (_ : d ≤ 10) (t : Ty) (_ : TyIn xs.length t) (w : World) (x : Value) (F : List Nat) (cs : List Value) (G : List Nat), Arr w (DtR w) xs x F → Under w.heap.size F → PR w p cs G → Under w.heap.size G →
  Calls Tryz.prog 40 #[x, .agg #[.int .i64 t.d, .int .i64 t.i], .agg cs.toArray, .int .i64 (d : Int)] w fun e w' => e = .returned (.bool (shapeB xs d t p)) ∧ Below w.heap.size w w'

set_option maxRecDepth 100000 in
set_option maxHeartbeats 1600000 in
theorem l3Shape_of (p : P) (ih : ∀ k ∈ p.ks, ShapeS k) : ShapeS p := by
  intro xs hw d hd t ht w x F cs G hx hf hv hg
  have IH := Lib.hid ih
  clear ih
  obtain ⟨kv, rfl, ha⟩ := (PR_iff _ _ _).1 hv
  obtain ⟨A, cap, rfl, hc1, hc2⟩ := hx.form
  obtain ⟨A4, cap4, rfl, hc3, hc4⟩ := ha.form
  have HV := Lib.hid hv
  have HX := Lib.hid hx
  have HF := Lib.hid hf
  have HA := Lib.hid ha
  have HG := Lib.hid hg
  clear hx hf ha hg
  clear hv
  have HW := Lib.hid hw
  have HT := Lib.hid ht
  clear hw ht
  cases d with
  | zero =>
    go_enter Tryz.func40, Tryz.ntmps40
    go_wp2
    go_ret
    exact ⟨ret_bool rfl, ((Below.refl _ _).alloc (Nat.le_refl _) _).alloc (by simp) _⟩
  | succ d =>
  have hd1 : decide (((d + 1 : Nat) : Int) < 1) = false := by simp; omega
  have hde : ((d + 1 : Nat) : Int) = (d : Int) + 1 := by omega
  rw [hde] at hd1 ⊢
  clear hde
  have HFD := Lib.hid (shapeB_succ xs d t p)
  go_enter Tryz.func40, Tryz.ntmps40
  go_wp2_with fail
  obtain ⟨W2, hW2⟩ : ∃ W2, W2 = ((w.alloc (.cells #[.int .i64 t.d, .int .i64 t.i] 33)).alloc (.cells #[.int .i64 p.op, .int .i64 p.ct, .int .i64 p.n, .int .i64 p.m, .int .i64 p.va, .slice A4 p.ks.length cap4] 37)) := ⟨_, rfl⟩
  have hB0 : Below w.heap.size w W2 := by rw [hW2]; exact ((Below.refl _ _).alloc (Nat.le_refl _) _).alloc (by simp) _
  have KT : Hid (Blk W2 w.heap.size 33 #[.int .i64 t.d, .int .i64 t.i]) := by rw [hW2]; exact (Blk.new w _ _).same (Below.heap_alloc _ _ _ (by simp))
  have KP : Hid (Blk W2 (w.heap.size + 1) 37 #[.int .i64 p.op, .int .i64 p.ct, .int .i64 p.n, .int .i64 p.m, .int .i64 p.va, .slice A4 p.ks.length cap4]) := by rw [hW2]; have h := Blk.new (w.alloc (.cells #[.int .i64 t.d, .int .i64 t.i] 33)) 37 #[.int .i64 p.op, .int .i64 p.ct, .int .i64 p.n, .int .i64 p.m, .int .i64 p.va, .slice A4 p.ks.length cap4]; rw [World.size_alloc] at h; exact h
  have hws : w.heap.size + 2 ≤ W2.heap.size := by rw [hW2]; simp
  rw [← hW2]
  clear hW2
  have y0 : W2.cell? ⟨w.heap.size, 0, none⟩ = some (.int .i64 t.d) := (KT.out.cell 0).trans (by simp)
  have y1 : W2.cell? ⟨w.heap.size, 1, none⟩ = some (.int .i64 t.i) := (KT.out.cell 1).trans (by simp)
  have klt := KT.out.lt
  have z0 : W2.cell? ⟨w.heap.size + 1, 0, none⟩ = some (.int .i64 p.op) := (KP.out.cell 0).trans (by simp)
  have z1 : W2.cell? ⟨w.heap.size + 1, 1, none⟩ = some (.int .i64 p.ct) := (KP.out.cell 1).trans (by simp)
  have z2 : W2.cell? ⟨w.heap.size + 1, 2, none⟩ = some (.int .i64 p.n) := (KP.out.cell 2).trans (by simp)
  have z3 : W2.cell? ⟨w.heap.size + 1, 3, none⟩ = some (.int .i64 p.m) := (KP.out.cell 3).trans (by simp)
  have z4 : W2.cell? ⟨w.heap.size + 1, 4, none⟩ = some (.int .i64 p.va) := (KP.out.cell 4).trans (by simp)
  have z5 : W2.cell? ⟨w.heap.size + 1, 5, none⟩ = some (.slice A4 p.ks.length cap4) := (KP.out.cell 5).trans (by simp)
  have klt2 := KP.out.lt
  go_wp2_with fail
  refine (spec_l3Own xs HW.out t HT.out p W2 _ F _ G (ArrDt.below HX.out hB0 HF.out) (HF.out.mono hB0.size) (HV.out.below hB0 HG.out) (HG.out.mono hB0.size)).mono ?_
  rintro e w3 ⟨rfl, hb3⟩
  have hB3 := hB0.trans (hb3.mono hB0.size)
  have KT3 := Lib.hid (KT.out.same (hb3.block _ KT.out.lt))
  have KP3 := Lib.hid (KP.out.same (hb3.block _ KP.out.lt))
  clear y0 y1 z0 z1 z2 z3 z4 z5 klt klt2
  have y0 : w3.cell? ⟨w.heap.size, 0, none⟩ = some (.int .i64 t.d) := (KT3.out.cell 0).trans (by simp)
  have y1 : w3.cell? ⟨w.heap.size, 1, none⟩ = some (.int .i64 t.i) := (KT3.out.cell 1).trans (by simp)
  have klt := KT3.out.lt
  have z0 : w3.cell? ⟨w.heap.size + 1, 0, none⟩ = some (.int .i64 p.op) := (KP3.out.cell 0).trans (by simp)
  have z1 : w3.cell? ⟨w.heap.size + 1, 1, none⟩ = some (.int .i64 p.ct) := (KP3.out.cell 1).trans (by simp)
  have z2 : w3.cell? ⟨w.heap.size + 1, 2, none⟩ = some (.int .i64 p.n) := (KP3.out.cell 2).trans (by simp)
  have z3 : w3.cell? ⟨w.heap.size + 1, 3, none⟩ = some (.int .i64 p.m) := (KP3.out.cell 3).trans (by simp)
  have z4 : w3.cell? ⟨w.heap.size + 1, 4, none⟩ = some (.int .i64 p.va) := (KP3.out.cell 4).trans (by simp)
  have z5 : w3.cell? ⟨w.heap.size + 1, 5, none⟩ = some (.slice A4 p.ks.length cap4) := (KP3.out.cell 5).trans (by simp)
  have klt2 := KP3.out.lt
  clear hb3 KT KP hB0
  cases e1 : ownB xs t p with
  | false =>
    have hf : Hid (shapeB xs (d + 1) t p = false) := by rw [HFD.out, e1]; rfl
    clear e1
    go_wp2
    go_ret
    exact ⟨ret_bool hf.out.symm, hB3⟩
  | true =>
    have h1 : shapeB xs (d + 1) t p = (p.ks.length == (typesP xs t p).length && allP (shapeB xs d) (typesP xs t p) p.ks) := by rw [HFD.out, e1, Bool.true_and]
    have H1 := Lib.hid h1
    have HO := Lib.hid e1
    have HAI := Lib.hid (typesP_in HW.out HT.out e1)
    have hl3 := typesP_len HW.out HT.out e1
    clear h1 e1
    go_wp2_with fail
    refine (spec_l3Types xs HW.out t HT.out p HO.out w3 _ F _ G (ArrDt.below HX.out hB3 HF.out) (HF.out.mono hB3.size) (HV.out.below hB3 HG.out) (HG.out.mono hB3.size)).mono ?_
    rintro e w6 ⟨v6, F6, rfl, hb6, ha6, -, hfs6⟩
    have hB6 := hB3.trans (hb6.mono hB3.size)
    have KT6 := Lib.hid (KT3.out.same (hb6.block _ KT3.out.lt))
    have KP6 := Lib.hid (KP3.out.same (hb6.block _ KP3.out.lt))
    generalize hass : typesP xs t p = ls at *
    clear hass
    obtain ⟨A6, cap6, rfl, hd3, hd4⟩ := ha6.form
    have HA6 := Lib.hid ha6
    have HU6 := Lib.hid hfs6.under
    clear y0 y1 z0 z1 z2 z3 z4 z5 klt klt2
    clear ha6 hfs6 hb6 KT3 KP3 hB3 KT6
    have z5 : w6.cell? ⟨w.heap.size + 1, 5, none⟩ = some (.slice A4 p.ks.length cap4) := (KP6.out.cell 5).trans (by simp)
    have klt2 := KP6.out.lt
    by_cases hln : p.ks.length = ls.length
    · have t2 : ((p.ks.length : Int) != (ls.length : Int)) = false := by simp [hln]
      have h3 : shapeB xs (d + 1) t p = allP (shapeB xs d) ls p.ks := by rw [H1.out, hln]; simp
      have H3 := Lib.hid h3
      have HLN := Lib.hid hln
      clear h3 hln
      go_wp2
      clear z5 klt2 t2
      go_loopw [10] (fun iv wr => ∃ i : Nat, i ≤ ls.length ∧ iv = .int .i64 i ∧ Hid (shapeB xs (d + 1) t p = allP (shapeB xs d) (ls.drop i) (p.ks.drop i)) ∧ Hid (Blk wr (w.heap.size + 1) 37 #[.int .i64 p.op, .int .i64 p.ct, .int .i64 p.n, .int .i64 p.m, .int .i64 p.va, .slice A4 p.ks.length cap4]) ∧ Below w.heap.size w wr ∧ Hid (Below w6.heap.size w6 wr)) (fun iv _ => ls.length - (intOf iv).toNat)
      case atStart => exact ⟨0, Nat.zero_le _, rfl, H3, KP6, hB6, Below.refl _ _⟩
      case round =>
        clear hB6
        obtain ⟨i, hi, rfl, HR, KP, hB, HB6⟩ := hrel
        by_cases hil : i < ls.length
        · have hik : i < p.ks.length := by rw [HLN.out]; exact hil
          obtain ⟨b6, off6, rfl⟩ := HA6.out.ptr (by omega)
          obtain ⟨hb6, a0, a1⟩ := ArrTy.at HA6.out HU6.out HB6.out i hil
          obtain ⟨b4, off4, rfl⟩ := HA.out.ptr (by omega)
          obtain ⟨A7, cap7, G7, hb7, k0, k1, k2, k3, k4, k5, HV7, HG7, -, -, -⟩ := ArrP.at HA.out HG.out hB i hik
          have z5 : wr.cell? ⟨w.heap.size + 1, 5, none⟩ = some (.slice (some ⟨b4, off4, none⟩) p.ks.length cap4) := (KP.out.cell 5).trans (by simp)
          have klt2 := KP.out.lt
          have g1 : (0 : Int) ≤ (i : Int) := by omega
          have g2 : (i : Int) < (ls.length : Int) := by omega
          have g3 : (i : Int) < (p.ks.length : Int) := by omega
          have hstep := HR.out
          rw [allP_step hil hik] at hstep
          have HST := Lib.hid hstep
          clear hstep
          have hwr : IntKind.i64.wrap (d : Int) = (d : Int) := IntWalk.i64_in _ (by omega)
          have HCALL := Lib.hid (IH.out p.ks[i] (List.getElem_mem hik) xs HW.out d (by omega) ls[i] (HAI.out _ (List.getElem_mem hil)) wr.drew _ F _ G7 (ArrDt.below HX.out hB.drew HF.out) (HF.out.mono hB.drew.size) (HV7.out.below hB.drew HG7.out) (HG7.out.mono hB.drew.size))
          go_wp2_with fail
          have hkeep : ∀ U U' : World, (U.cell? ⟨b6, off6 + i * 2, none⟩ = some (.int .i64 ls[i].d) ∧ U.cell? ⟨b6, off6 + i * 2 + 1, none⟩ = some (.int .i64 ls[i].i) ∧ U.cell? ⟨w.heap.size + 1, 5, none⟩ = some (.slice (some ⟨b4, off4, none⟩) p.ks.length cap4) ∧ U.cell? ⟨b4, off4 + i * 6, none⟩ = some (.int .i64 p.ks[i].op) ∧ U.cell? ⟨b4, off4 + i * 6 + 1, none⟩ = some (.int .i64 p.ks[i].ct) ∧ U.cell? ⟨b4, off4 + i * 6 + 2, none⟩ = some (.int .i64 p.ks[i].n) ∧ U.cell? ⟨b4, off4 + i * 6 + 3, none⟩ = some (.int .i64 p.ks[i].m) ∧ U.cell? ⟨b4, off4 + i * 6 + 4, none⟩ = some (.int .i64 p.ks[i].va) ∧ U.cell? ⟨b4, off4 + i * 6 + 5, none⟩ = some (.slice A7 p.ks[i].ks.length cap7)) → Below U.heap.size U U' → wr.heap.size ≤ U.heap.size → (U'.cell? ⟨b6, off6 + i * 2, none⟩ = some (.int .i64 ls[i].d) ∧ U'.cell? ⟨b6, off6 + i * 2 + 1, none⟩ = some (.int .i64 ls[i].i) ∧ U'.cell? ⟨w.heap.size + 1, 5, none⟩ = some (.slice (some ⟨b4, off4, none⟩) p.ks.length cap4) ∧ U'.cell? ⟨b4, off4 + i * 6, none⟩ = some (.int .i64 p.ks[i].op) ∧ U'.cell? ⟨b4, off4 + i * 6 + 1, none⟩ = some (.int .i64 p.ks[i].ct) ∧ U'.cell? ⟨b4, off4 + i * 6 + 2, none⟩ = some (.int .i64 p.ks[i].n) ∧ U'.cell? ⟨b4, off4 + i * 6 + 3, none⟩ = some (.int .i64 p.ks[i].m) ∧ U'.cell? ⟨b4, off4 + i * 6 + 4, none⟩ = some (.int .i64 p.ks[i].va) ∧ U'.cell? ⟨b4, off4 + i * 6 + 5, none⟩ = some (.slice A7 p.ks[i].ks.length cap7)) := fun U U' h hUU hU => ⟨(hUU.cell (Nat.lt_of_lt_of_le (hb6) hU)).trans h.1, (hUU.cell (Nat.lt_of_lt_of_le (hb6) hU)).trans h.2.1, (hUU.cell (Nat.lt_of_lt_of_le (klt2) hU)).trans h.2.2.1, (hUU.cell (Nat.lt_of_lt_of_le (hb7) hU)).trans h.2.2.2.1, (hUU.cell (Nat.lt_of_lt_of_le (hb7) hU)).trans h.2.2.2.2.1, (hUU.cell (Nat.lt_of_lt_of_le (hb7) hU)).trans h.2.2.2.2.2.1, (hUU.cell (Nat.lt_of_lt_of_le (hb7) hU)).trans h.2.2.2.2.2.2.1, (hUU.cell (Nat.lt_of_lt_of_le (hb7) hU)).trans h.2.2.2.2.2.2.2.1, (hUU.cell (Nat.lt_of_lt_of_le (hb7) hU)).trans h.2.2.2.2.2.2.2.2⟩
          have HKeep := Lib.hid hkeep
          clear hkeep
          go_region_held3 (fun w' => w'.cell? ⟨b6, off6 + i * 2, none⟩ = some (.int .i64 ls[i].d) ∧ w'.cell? ⟨b6, off6 + i * 2 + 1, none⟩ = some (.int .i64 ls[i].i) ∧ w'.cell? ⟨w.heap.size + 1, 5, none⟩ = some (.slice (some ⟨b4, off4, none⟩) p.ks.length cap4) ∧ w'.cell? ⟨b4, off4 + i * 6, none⟩ = some (.int .i64 p.ks[i].op) ∧ w'.cell? ⟨b4, off4 + i * 6 + 1, none⟩ = some (.int .i64 p.ks[i].ct) ∧ w'.cell? ⟨b4, off4 + i * 6 + 2, none⟩ = some (.int .i64 p.ks[i].n) ∧ w'.cell? ⟨b4, off4 + i * 6 + 3, none⟩ = some (.int .i64 p.ks[i].m) ∧ w'.cell? ⟨b4, off4 + i * 6 + 4, none⟩ = some (.int .i64 p.ks[i].va) ∧ w'.cell? ⟨b4, off4 + i * 6 + 5, none⟩ = some (.slice A7 p.ks[i].ks.length cap7)) (first | assumption | (exact ⟨a0, a1, z5, k0, k1, k2, k3, k4, k5⟩) | (exact HKeep.out wr.drew w' ⟨a0, a1, z5, k0, k1, k2, k3, k4, k5⟩ hB' (Nat.le_refl _))) (first | (go_at_call 40; ((with_reducible refine HCALL.out.mono ?_); rintro e w' ⟨rfl, hB'⟩)))
          have hB3 := hB.drew.trans (hB'.mono hB.size)
          have HB3 := Lib.hid (HB6.out.drew.trans (hB'.mono HB6.out.size))
          have KP3 := Lib.hid (KP.out.same (hB'.block _ KP.out.lt))
          clear HKeep hwr
          cases e3 : shapeB xs d ls[i] p.ks[i] with
          | false =>
            have hf : Hid (shapeB xs (d + 1) t p = false) := by rw [HST.out, e3]; rfl
            clear e3
            go_wp2
            go_ret
            exact ⟨ret_bool hf.out.symm, hB3⟩
          | true =>
            have hR2 : Hid (shapeB xs (d + 1) t p = allP (shapeB xs d) (ls.drop (i + 1)) (p.ks.drop (i + 1))) := by rw [HST.out, e3, Bool.true_and]; rfl
            clear e3
            go_wp2
            go_roundw
            case rel => exact ⟨i + 1, by omega, by go_num, hR2, KP3, hB3, HB3⟩
            case measure => (simp [intOf] <;> omega)
        · have hf : Hid (shapeB xs (d + 1) t p = true) := by rw [HR.out]; exact allP_end (by omega)
          go_wp2
          go_ret
          exact ⟨ret_bool hf.out.symm, hB⟩
    · have t2 : ((p.ks.length : Int) != (ls.length : Int)) = true := by rw [bne_iff_ne]; omega
      have hf : Hid (shapeB xs (d + 1) t p = false) := by unfold Hid; rw [H1.out]; simp [hln]
      clear hln
      go_wp2
      go_ret
      exact ⟨ret_bool hf.out.symm, hB6⟩
theorem spec_l3Shape : ∀ p, ShapeS p := P.indv l3Shape_of
end Go.Proofs.YtilndhmegaccmaaGreatDoor

namespace Go.Proofs.YtilndhmegaccmaaGreatDoor
open Go.RowKit

def scanPB (xs : List Dt) (d : Nat) (t : Ty) (p : P) (c : Nat) : Bool := shapeB xs d t p && (decide (c + nodesP p ≤ 60) && linB xs d t p)
/-- a node's fields and the number of its kids are right -/
def nodeB (xs : List Dt) (t : Ty) (p : P) : Bool := ownB xs t p && p.ks.length == (typesP xs t p).length
def kidSum (p : P) (i : Nat) : Nat := (p.ks.take i).foldl (fun n k => n + nodesP k) 0
theorem foldl_nodes (l : List P) (n : Nat) : l.foldl (fun n k => n + nodesP k) n = n + (l.length + P.subs l) := by
  induction l generalizing n with
  | nil => simp [P.subs]
  | cons k l ih => rw [List.foldl_cons, ih]; simp only [P.subs, List.length_cons, nodesP]; omega
theorem kidSum_succ (p : P) (i : Nat) (h : i < p.ks.length) : kidSum p (i + 1) = kidSum p i + nodesP p.ks[i] := by
  unfold kidSum
  rw [take_snoc' p.ks i h, List.foldl_append]; rfl
theorem kidSum_all (p : P) {i : Nat} (h : p.ks.length ≤ i) : nodesP p = 1 + kidSum p i := by
  unfold kidSum
  rw [List.take_of_length_le h, foldl_nodes]
  obtain ⟨op, ct, n, m, va, ks⟩ := p
  unfold nodesP
  rw [P.size, P.sizes_eq]
  simp only; omega
theorem kidSum_le (p : P) (i : Nat) : 1 + kidSum p i ≤ nodesP p := by
  rw [kidSum_all p (Nat.le_refl _)]
  unfold kidSum
  rw [foldl_nodes, foldl_nodes]
  have h1 := P.subs_take_le p.ks i
  have h2 : (p.ks.take i).length ≤ p.ks.length := by rw [List.length_take]; omega
  rw [List.take_of_length_le (Nat.le_refl _)]
  omega
section
variable {xs : List Dt} {d c i : Nat} {t : Ty} {p : P}
theorem scanPB_node (h : nodeB xs t p = false) : scanPB xs (d + 1) t p c = false := by
  have e : shapeB xs (d + 1) t p = (nodeB xs t p && ((typesP xs t p).zip p.ks).all fun x => shapeB xs d x.1 x.2) := by
    unfold nodeB
    rw [Bool.and_assoc]; rfl
  unfold scanPB
  rw [e, h]; rfl
theorem scanPB_many (h : 60 < c + 1) : scanPB xs d t p c = false := by
  have h1 : ¬ c + nodesP p ≤ 60 := by unfold nodesP; omega
  unfold scanPB
  rw [decide_eq_false h1, Bool.false_and, Bool.and_false]
theorem scanPB_deep : scanPB xs 0 t p c = false := rfl
/-- what holds before kid i: the kids before it are right, their nodes fit -/
structure KidsOk (xs : List Dt) (d : Nat) (t : Ty) (p : P) (c i : Nat) : Prop where
  node : nodeB xs t p = true
  le : i ≤ p.ks.length
  fit : c + 1 + kidSum p i ≤ 60
  all : ∀ j (h : j < p.ks.length) (h' : j < (typesP xs t p).length), j < i → shapeB xs d (typesP xs t p)[j] p.ks[j] = true ∧ linB xs d (typesP xs t p)[j] p.ks[j] = true
theorem KidsOk.len (h : KidsOk xs d t p c i) : p.ks.length = (typesP xs t p).length := by
  have := h.node
  unfold nodeB at this
  rw [Bool.and_eq_true, beq_iff_eq] at this
  exact this.2
theorem KidsOk.zero (h : nodeB xs t p = true) (hc : c + 1 ≤ 60) : KidsOk xs d t p c 0 := ⟨h, Nat.zero_le _, by unfold kidSum; simpa using hc, fun j _ _ hj => by omega⟩
theorem zip_at (hi : i < p.ks.length) (hi' : i < (typesP xs t p).length) : ((typesP xs t p)[i], p.ks[i]) ∈ (typesP xs t p).zip p.ks := by
  rw [List.mem_iff_getElem]
  exact ⟨i, by rw [List.length_zip]; omega, by rw [List.getElem_zip]⟩
theorem KidsOk.next (h : KidsOk xs d t p c i) (hi : i < p.ks.length) (hi' : i < (typesP xs t p).length) (hs : scanPB xs d (typesP xs t p)[i] p.ks[i] (c + 1 + kidSum p i) = true) : KidsOk xs d t p c (i + 1) := by
  unfold scanPB at hs
  rw [Bool.and_eq_true, Bool.and_eq_true, decide_eq_true_eq] at hs
  refine ⟨h.node, hi, by rw [kidSum_succ p i hi]; omega, fun j hj hj' hji => ?_⟩
  rcases Nat.lt_or_ge j i with h1 | h1
  · exact h.all j hj hj' h1
  · obtain rfl : j = i := by omega
    exact ⟨hs.1, hs.2.2⟩
theorem KidsOk.fail (h : KidsOk xs d t p c i) (hi : i < p.ks.length) (hi' : i < (typesP xs t p).length) (hs : scanPB xs d (typesP xs t p)[i] p.ks[i] (c + 1 + kidSum p i) = false) : scanPB xs (d + 1) t p c = false := by
  rw [Bool.eq_false_iff]
  intro hk
  unfold scanPB at hk
  rw [Bool.and_eq_true, Bool.and_eq_true, decide_eq_true_eq] at hk
  obtain ⟨h1, h2, h3⟩ := hk
  simp only [shapeB, linB, Bool.and_eq_true] at h1 h3
  have m := zip_at (xs := xs) (t := t) hi hi'
  have s1 := List.all_eq_true.1 h1.2.2 _ m
  have s2 := List.all_eq_true.1 h3.1 _ m
  have s3 : c + 1 + kidSum p i + nodesP p.ks[i] ≤ 60 := by
    have := kidSum_le p (i + 1)
    rw [kidSum_succ p i hi] at this
    omega
  unfold scanPB at hs
  rw [s1, s2, decide_eq_true s3] at hs
  cases hs
theorem KidsOk.shape (h : KidsOk xs d t p c p.ks.length) : shapeB xs (d + 1) t p = true := by
  have hn := h.node
  have hl := h.len
  unfold nodeB at hn
  rw [Bool.and_eq_true] at hn
  unfold shapeB
  rw [hn.1, hn.2, Bool.true_and, Bool.true_and, List.all_eq_true]
  intro x hx
  obtain ⟨i, hi, rfl⟩ := List.mem_iff_getElem.1 hx
  rw [List.length_zip] at hi
  rw [List.getElem_zip]
  exact (h.all i (by omega) (by omega) (by omega)).1
theorem KidsOk.lins (h : KidsOk xs d t p c p.ks.length) : (((typesP xs t p).zip p.ks).all fun x => linB xs d x.1 x.2) = true := by
  rw [List.all_eq_true]
  intro x hx
  have hl := h.len
  obtain ⟨i, hi, rfl⟩ := List.mem_iff_getElem.1 hx
  rw [List.length_zip] at hi
  rw [List.getElem_zip]
  exact (h.all i (by omega) (by omega) (by omega)).2
/-- all kids are right: what is left is the test of the variables -/
theorem KidsOk.done (h : KidsOk xs d t p c p.ks.length) : scanPB xs (d + 1) t p c = (if p.op = 5 then (match p.ks with | [k0, k1] => alikeB (varsN xs d t k0) (varsN xs d t k1) | _ => true) else dupFree (varsN xs (d + 1) t p)) := by
  have hf : c + nodesP p ≤ 60 := by rw [kidSum_all p (Nat.le_refl _)]; have := h.fit; omega
  unfold scanPB
  rw [h.shape, decide_eq_true hf, Bool.true_and, Bool.true_and]
  show ((((typesP xs t p).zip p.ks).all fun x => linB xs d x.1 x.2) && _) = _
  rw [h.lins, Bool.true_and]
  all_goals rfl
end
end Go.Proofs.YtilndhmegaccmaaGreatDoor

namespace Go.Proofs.YtilndhmegaccmaaGreatDoor
open Go.RowKit

theorem ArrVt.at {w0 w : World} {b off n cap : Nat} {F : List Nat} {xs : List Vt} (h : Arr w0 (VtR w0) xs (.slice (some ⟨b, off, none⟩) n cap) F) (hF : Under w0.heap.size F) (hB : Below w0.heap.size w0 w) (i : Nat) (hi : i < xs.length) :
    b < w.heap.size ∧ w.cell? ⟨b, off + i * 3, none⟩ = some (.int .i64 xs[i].var) ∧ w.cell? ⟨b, off + i * 3 + 1, none⟩ = some (.int .i64 xs[i].ty.d) ∧ w.cell? ⟨b, off + i * 3 + 2, none⟩ = some (.int .i64 xs[i].ty.i) := by
  obtain ⟨b', off', cs, G, e, hb, hcs, hv, hG⟩ := h.get (VtR_len w0) hi
  cases e
  have hbl := hF _ hb
  have hc := hcs.same (hB.block _ hbl)
  obtain ⟨rfl, rfl⟩ := hv
  exact ⟨Nat.lt_of_lt_of_le hbl hB.size, hc 0 _ rfl, hc 1 _ rfl, hc 2 _ rfl⟩
set_option maxRecDepth 100000 in
set_option maxHeartbeats 1600000 in
theorem spec_l3Find (xs : List Vt) (n r : Int) (hr : FirstAt (fun x : Vt => x.var == n) xs r) (w : World) (x : Value) (F : List Nat) (hx : Arr w (VtR w) xs x F) (hf : Under w.heap.size F) :
    Calls Tryz.prog 61 #[x, .int .i64 n] w fun e w' => e = .returned (.int .i64 r) ∧ Below w.heap.size w w' := by
  obtain ⟨A, cap, rfl, hc1, hc2⟩ := hx.form
  have HX := Lib.hid hx
  have HF := Lib.hid hf
  have HR := Lib.hid hr
  clear hx hf hr
  go_enter Tryz.func61, Tryz.ntmps61
  go_wp2
  go_loopw [5] (fun i wr => ∃ k : Nat, k ≤ xs.length ∧ i = .int .i64 k ∧ Hid (∀ j (hj : j < xs.length), j < k → (xs[j].var == n) = false) ∧ Below w.heap.size w wr) (fun i _ => xs.length - (intOf i).toNat)
  case atStart => exact ⟨0, Nat.zero_le _, rfl, fun j hj h => by omega, Below.refl _ _⟩
  case round =>
    obtain ⟨k, hk, rfl, HT, hB⟩ := hrel
    by_cases hlt : k < xs.length
    · have g1 : (0 : Int) ≤ (k : Int) := by omega
      have g2 : (k : Int) < (xs.length : Int) := by omega
      obtain ⟨b, off, rfl⟩ := HX.out.ptr (by omega)
      obtain ⟨hb, c0, c1, c2⟩ := ArrVt.at HX.out HF.out hB k hlt
      cases hq : (xs[k].var == n) with
      | true =>
        have hf := Lib.hid (HR.out.hit hlt hq (fun j hj h => HT.out j hj h))
        go_wp2
        go_ret
        exact ⟨ret_int hf.out.symm, hB⟩
      | false =>
        have hT2 : Hid (∀ j (hj : j < xs.length), j < k + 1 → (xs[j].var == n) = false) := fun j hj h => by
          rcases Nat.lt_or_ge j k with h2 | h2
          · exact HT.out j hj h2
          · obtain rfl : j = k := by omega
            exact hq
        go_wp2
        go_roundw
        case rel => exact ⟨k + 1, by omega, by go_num, hT2, hB⟩
        case measure => (simp [intOf] <;> omega)
    · have hf : Hid (r = -1) := HR.out.miss (fun j hj => HT.out j hj (by omega))
      go_wp2
      go_ret
      exact ⟨ret_int hf.out.symm, hB⟩
end Go.Proofs.YtilndhmegaccmaaGreatDoor

namespace Go.Proofs.YtilndhmegaccmaaGreatDoor
open Go.RowKit

theorem CellsAt.nil (w : World) (b off : Nat) : CellsAt w b off [] := fun j u h => by simp at h
theorem CellsAt.cons {w : World} {b off : Nat} {a : Value} {cs : List Value} (h : w.cell? ⟨b, off, none⟩ = some a) (hc : CellsAt w b (off + 1) cs) : CellsAt w b off (a :: cs) := fun j u hj => by
  cases j with
  | zero => simp at hj; subst hj; exact h
  | succ j =>
    have := hc j u (by simpa using hj)
    rwa [show off + 1 + j = off + (j + 1) by omega] at this
theorem Kept.refl (F : List Nat) (w : World) : Kept F w w := fun _ _ => rfl
theorem Kept.set {F : List Nat} {w w' : World} {b j : Nat} {u : Value} (h : Kept F w w') (hb : b ∉ F) : Kept F w (w'.setCell ⟨b, j, none⟩ u) := fun c hc =>
  (Below.heap_setCell _ _ _ _ (fun e => hb (by rw [← show c = b from e]; exact hc))).trans (h c hc)
theorem Kept.step {F : List Nat} {w w' w'' : World} (h : Kept F w w') (hb : Below w'.heap.size w' w'') (hF : Under w'.heap.size F) : Kept F w w'' := fun c hc => (hb.block c (hF c hc)).trans (h c hc)

/-- w' differs from w in the blocks of F alone -/
structure Chg (F : List Nat) (w w' : World) : Prop where
  os : w'.os = w.os
  tape : w'.tape = w.tape
  output : w'.output = w.output
  size : w.heap.size ≤ w'.heap.size
  block : ∀ b, b < w.heap.size → b ∉ F → w'.heap[b]? = w.heap[b]?
theorem Chg.refl (F : List Nat) (w : World) : Chg F w w := ⟨rfl, rfl, rfl, Nat.le_refl _, fun _ _ _ => rfl⟩
theorem Chg.trans {F : List Nat} {a b c : World} (h : Chg F a b) (k : Chg F b c) : Chg F a c :=
  ⟨k.os.trans h.os, k.tape.trans h.tape, k.output.trans h.output, Nat.le_trans h.size k.size, fun i hi hF => (k.block i (Nat.lt_of_lt_of_le hi h.size) hF).trans (h.block i hi hF)⟩
theorem Chg.mono {F G : List Nat} {w w' : World} (h : Chg F w w') (hs : ∀ b ∈ F, b ∈ G) : Chg G w w' := ⟨h.os, h.tape, h.output, h.size, fun b hb hG => h.block b hb fun hf => hG (hs b hf)⟩
theorem Chg.of_below {F : List Nat} {w w' : World} (h : Below w.heap.size w w') : Chg F w w' := ⟨h.os, h.tape, h.output, h.size, fun b hb _ => h.block b hb⟩
theorem Chg.kept {F G : List Nat} {w w' : World} (h : Chg F w w') (hG : Under w.heap.size G) (hd : ∀ b ∈ G, b ∉ F) : Kept G w w' := fun b hb => h.block b (hG b hb) (hd b hb)
theorem Chg.below {F : List Nat} {w w' : World} {B : Nat} (h : Chg F w w') (hF : ∀ b ∈ F, B ≤ b) (hB : B ≤ w.heap.size) : Below B w w' :=
  ⟨h.os, h.tape, h.output, h.size, fun b hb => h.block b (Nat.lt_of_lt_of_le hb hB) fun hf => Nat.lt_irrefl _ (Nat.lt_of_lt_of_le hb (hF b hf))⟩

theorem Chg.set {F : List Nat} {w w' : World} {b j : Nat} {u : Value} (h : Chg F w w') (hb : b ∈ F) : Chg F w (w'.setCell ⟨b, j, none⟩ u) :=
  ⟨h.os, h.tape, h.output, Nat.le_trans h.size (by simp [World.setCell]), fun c hc hF => (Below.heap_setCell _ _ _ _ (fun e => hF (by rw [show c = b from e]; exact hb))).trans (h.block c hc hF)⟩
theorem Chg.step {F : List Nat} {w w' w'' : World} (h : Chg F w w') (hb : Below w'.heap.size w' w'') : Chg F w w'' := h.trans (.of_below hb)
theorem Chg.drew {F : List Nat} {w w' : World} (h : Chg F w w') : Chg F w w'.drew := ⟨h.os, h.tape, h.output, h.size, h.block⟩
theorem Chg.drewN {F : List Nat} {w w' : World} (h : Chg F w w') (n : Nat) : Chg F w (w'.drewN n) := ⟨h.os, h.tape, h.output, h.size, h.block⟩
theorem Chg.cell {F : List Nat} {w w' : World} (h : Chg F w w') {p : Addr} (hp : p.block < w.heap.size) (hn : p.block ∉ F) : w'.cell? p = w.cell? p := World.cell?_of_block (w := w) (h.block p.block hp hn)
theorem Chg.undrew {F : List Nat} {w w' : World} (h : Chg F w.drew w') : Chg F w w' := ⟨h.os, h.tape, h.output, h.size, h.block⟩

/-- beside the blocks of F, cells lo .. lo + n - 1 of block b may have changed -/
structure Upd (b lo n : Nat) (F : List Nat) (w w' : World) : Prop extends Chg (b :: F) w w' where
  cells : ∀ j, j < lo ∨ lo + n ≤ j → w'.cell? ⟨b, j, none⟩ = w.cell? ⟨b, j, none⟩
  froz : ∀ j, w'.frozen? ⟨b, j, none⟩ = w.frozen? ⟨b, j, none⟩
theorem Upd.refl (b lo n : Nat) (F : List Nat) (w : World) : Upd b lo n F w w := ⟨Chg.refl _ _, fun _ _ => rfl, fun _ => rfl⟩
theorem Upd.trans {b lo n : Nat} {F : List Nat} {x y z : World} (h : Upd b lo n F x y) (k : Upd b lo n F y z) : Upd b lo n F x z :=
  ⟨h.toChg.trans k.toChg, fun j hj => (k.cells j hj).trans (h.cells j hj), fun j => (k.froz j).trans (h.froz j)⟩
theorem Upd.set {b lo n : Nat} {F : List Nat} {x y : World} (h : Upd b lo n F x y) {j : Nat} (h1 : lo ≤ j) (h2 : j < lo + n) (u : Value) : Upd b lo n F x (y.setCell ⟨b, j, none⟩ u) :=
  h.trans ⟨⟨rfl, rfl, rfl, by simp [World.setCell], fun c _ hc => Below.heap_setCell _ _ _ _ (fun e => hc (by rw [e]; exact List.mem_cons_self))⟩,
    fun i hi => World.cell?_setCell_other _ _ _ _ (by intro e; injection e; omega), fun i => World.frozen?_setCell _ _ _ _⟩
theorem Upd.sub {b lo n : Nat} {F : List Nat} {x y z : World} (h : Upd b lo n F x y) (hc : Chg F y z) (hb : b ∉ F) (hlt : b < y.heap.size) : Upd b lo n F x z :=
  h.trans ⟨hc.mono fun c hc => List.mem_cons_of_mem _ hc, fun j _ => World.cell?_of_block (w := y) (a := ⟨b, j, none⟩) (hc.block b hlt hb), fun j => World.frozen?_of_block (w := y) (a := ⟨b, j, none⟩) (hc.block b hlt hb)⟩
theorem Upd.below {b lo n : Nat} {F : List Nat} {x y z : World} (h : Upd b lo n F x y) (hc : Below y.heap.size y z) (hlt : b < y.heap.size) : Upd b lo n F x z :=
  h.trans ⟨.of_below hc, fun j _ => hc.cell (p := ⟨b, j, none⟩) hlt, fun j => hc.frozen (p := ⟨b, j, none⟩) hlt⟩

theorem Flat.len_eq {α : Type} {R : α → List Value → List Nat → Prop} {k : Nat} (hk : ∀ x cs F, R x cs F → cs.length = k) {xs : List α} {c : List Value} {F : List Nat} (h : Flat R xs c F) : c.length = xs.length * k := h.length hk

section
variable {α : Type} {R : World → α → List Value → List Nat → Prop} {k : Nat}

/-- one element in view: what may be done to it -/
theorem Arr.focus (hRl : ∀ w x cs G, R w x cs G → cs.length = k) (hRm : ∀ w w' x cs G, Kept G w w' → R w x cs G → R w' x cs G) {w : World} {xs : List α} {v : Value} {F : List Nat}
    (h : Arr w (R w) xs v F) (hfr : Free w F) (hF : Under w.heap.size F) {i : Nat} (hi : i < xs.length) :
    ∃ b off c F1 F2 F3 cap, v = .slice (some ⟨b, off, none⟩) xs.length cap ∧ F = b :: (F1 ++ (F2 ++ F3)) ∧ CellsAt w b (off + i * k) c ∧ R w xs[i] c F2 ∧ Free w F2 ∧ b ∉ F2 ∧ b < w.heap.size ∧ (∀ j, w.frozen? ⟨b, j, none⟩ = false) ∧ Under w.heap.size F2 ∧
      ∀ w' y c', Upd b (off + i * k) k F2 w w' → CellsAt w' b (off + i * k) c' → R w' y c' F2 → Free w' F2 → Arr w' (R w') (xs.set i y) v F ∧ Free w' F ∧ Chg F w w' := by
  obtain ⟨A, cap, rfl, h1, h2, h3⟩ := h
  rcases h3 with ⟨rfl, -⟩ | ⟨b, off, cs, G, rfl, hc, hf, rfl⟩
  · simp at hi
  have hxs : xs = xs.take i ++ (xs[i] :: xs.drop (i + 1)) := by rw [← List.drop_eq_getElem_cons hi, List.take_append_drop]
  have hf' := hf
  rw [hxs] at hf'
  obtain ⟨c1, c23, F1, F23, rfl, rfl, g1, g23⟩ := Flat.split (xs.take i) hf'
  obtain ⟨c2, c3, F2, F3, rfl, rfl, g2, g3⟩ := g23
  have l1 : c1.length = i * k := by rw [g1.length (hRl w), List.length_take]; congr 1; omega
  have hc2 := hc.right
  rw [l1] at hc2
  have l2 := hRl _ _ _ _ g2
  have nd := List.nodup_cons.1 hfr.1
  have nd1 := List.nodup_append.1 nd.2
  have nd2 := List.nodup_append.1 nd1.2.1
  have hbF2 : b ∉ F2 := fun hb => nd.1 (List.mem_append.2 (.inr (List.mem_append.2 (.inl hb))))
  refine ⟨b, off, c2, F1, F2, F3, cap, rfl, rfl, hc2.left, g2, ⟨nd2.1, fun x hx j => hfr.2 x (by simp [hx]) j⟩, hbF2, hF b (by simp), fun j => hfr.2 b (by simp) j, fun x hx => hF x (by simp [hx]), ?_⟩
  intro w' y c' hu hc' hy hfr2
  have k1 : Kept F1 w w' := hu.toChg.kept (fun x hx => hF x (by simp [hx])) fun x hx hm => by
    rcases List.mem_cons.1 hm with rfl | hm
    · exact nd.1 (by simp [hx])
    · exact nd1.2.2 x hx x (by simp [hm]) rfl
  have k3 : Kept F3 w w' := hu.toChg.kept (fun x hx => hF x (by simp [hx])) fun x hx hm => by
    rcases List.mem_cons.1 hm with rfl | hm
    · exact nd.1 (by simp [hx])
    · exact nd2.2.2 x hm x hx rfl
  have lc' := hRl _ _ _ _ hy
  have hxs' : xs.set i y = xs.take i ++ (y :: xs.drop (i + 1)) := by rw [List.set_eq_take_append_cons_drop, if_pos hi]
  refine ⟨?_, ?_, ?_⟩
  · rw [hxs']
    refine ⟨_, cap, by rw [← hxs', List.length_set], by rw [← hxs', List.length_set]; exact h1, h2, .inr ⟨b, off, c1 ++ (c' ++ c3), F1 ++ (F2 ++ F3), rfl, ?_, ?_, rfl⟩⟩
    · refine CellsAt.append (fun j u hj => ?_) (CellsAt.append ?_ (fun j u hj => ?_))
      · have hjl := (List.getElem?_eq_some_iff.1 hj).1
        rw [hu.cells _ (.inl (by omega))]
        exact hc.left j u hj
      · rw [l1]; exact hc'
      · rw [l1, hu.cells _ (.inr (by omega))]
        have := hc2.right j u hj
        rw [l2] at this
        rwa [lc']
    · exact (g1.mono fun x _ cs H hH hr => hRm _ _ x cs H (fun z hz => k1 z (hH z hz)) hr).append ⟨c', c3, F2, F3, rfl, rfl, hy, g3.mono fun x _ cs H hH hr => hRm _ _ x cs H (fun z hz => k3 z (hH z hz)) hr⟩
  · refine ⟨hfr.1, fun x hx j => ?_⟩
    rcases List.mem_cons.1 hx with rfl | hx
    · rw [hu.froz j]; exact hfr.2 x (by simp) j
    · rcases List.mem_append.1 hx with hx | hx
      · rw [World.frozen?_of_block (w := w) (a := ⟨x, j, none⟩) (k1 x hx)]; exact hfr.2 x (by simp [hx]) j
      · rcases List.mem_append.1 hx with hx | hx
        · exact hfr2.2 x hx j
        · rw [World.frozen?_of_block (w := w) (a := ⟨x, j, none⟩) (k3 x hx)]; exact hfr.2 x (by simp [hx]) j
  · exact hu.toChg.mono fun x hx => by
      rcases List.mem_cons.1 hx with rfl | hx <;> simp [*]
end

/-! ### What marking makes of a list -/
def mkS {α : Type} (mk : Int → α → α) (cnt : α → Nat) : Int → List α → List α
  | _, [] => []
  | k, x :: xs => mk k x :: mkS mk cnt (k + cnt x) xs
section
variable {α : Type} {mk : Int → α → α} {cnt : α → Nat}
theorem mkS_length : ∀ (xs : List α) (k : Int), (mkS mk cnt k xs).length = xs.length
  | [], _ => rfl
  | x :: xs, k => by rw [mkS, List.length_cons, mkS_length xs, List.length_cons]
theorem mkS_snoc : ∀ (xs : List α) (k : Int) (x : α), mkS mk cnt k (xs ++ [x]) = mkS mk cnt k xs ++ [mk (k + sumBy cnt xs) x]
  | [], k, x => by simp [mkS, sumBy]
  | y :: xs, k, x => by
    simp only [List.cons_append, mkS, mkS_snoc xs, sumBy]
    congr 4; omega
theorem mkS_get {xs : List α} {k : Int} {i : Nat} (hi : i < xs.length) : (mkS mk cnt k xs)[i]? = some (mk (k + sumBy cnt (xs.take i)) xs[i]) := by
  have h : ∀ (xs : List α) (k : Int) (i : Nat) (hi : i < xs.length), (mkS mk cnt k xs)[i]? = some (mk (k + sumBy cnt (xs.take i)) xs[i]) := by
    intro xs
    induction xs with
    | nil => intro k i hi; simp at hi
    | cons x xs ih =>
      intro k i hi
      cases i with
      | zero => simp [mkS, sumBy]
      | succ i =>
        simp only [mkS, List.getElem?_cons_succ, List.take_succ_cons, sumBy, List.getElem_cons_succ]
        rw [ih (k + cnt x) i (by simpa using hi)]
        congr 2; omega
  exact h xs k i hi
/-- the first i elements are marked already -/
def mkTo (mk : Int → α → α) (cnt : α → Nat) (k : Int) (xs : List α) (i : Nat) : List α := mkS mk cnt k (xs.take i) ++ xs.drop i
theorem mkTo_length (k : Int) (xs : List α) (i : Nat) : (mkTo mk cnt k xs i).length = xs.length := by unfold mkTo; rw [List.length_append, mkS_length, ← List.length_append, List.take_append_drop]
theorem mkTo_zero (k : Int) (xs : List α) : mkTo mk cnt k xs 0 = xs := rfl
theorem mkTo_all (k : Int) (xs : List α) {i : Nat} (h : xs.length ≤ i) : mkTo mk cnt k xs i = mkS mk cnt k xs := by unfold mkTo; rw [List.take_of_length_le h, List.drop_of_length_le h, List.append_nil]
theorem mkTo_get {k : Int} {xs : List α} {i : Nat} (hi : i < xs.length) : (mkTo mk cnt k xs i)[i]'(by rw [mkTo_length]; exact hi) = xs[i] := by
  unfold mkTo
  rw [List.getElem_append_right (by rw [mkS_length, List.length_take]; omega)]
  simp only [mkS_length, List.length_take, Nat.min_eq_left (Nat.le_of_lt hi), Nat.sub_self, List.getElem_drop, Nat.add_zero]
theorem mkTo_step {k : Int} {xs : List α} {i : Nat} (hi : i < xs.length) : (mkTo mk cnt k xs i).set i (mk (k + sumBy cnt (xs.take i)) xs[i]) = mkTo mk cnt k xs (i + 1) := by
  unfold mkTo
  rw [take_snoc' xs i hi, mkS_snoc, List.set_append_right _ _ (by rw [mkS_length, List.length_take]; omega), mkS_length, List.length_take, Nat.min_eq_left (Nat.le_of_lt hi), Nat.sub_self, List.drop_eq_getElem_cons hi, List.set_cons_zero, List.append_assoc]
  rfl
theorem sumBy_step (f : α → Nat) {xs : List α} {i : Nat} (hi : i < xs.length) (k : Int) : k + sumBy f (xs.take (i + 1)) = k + sumBy f (xs.take i) + f xs[i] := by rw [sumBy_take_succ f xs i hi]; omega
end
end Go.Proofs.YtilndhmegaccmaaGreatDoor
