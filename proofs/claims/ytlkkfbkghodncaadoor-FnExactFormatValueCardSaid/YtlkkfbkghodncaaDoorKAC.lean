/-
  Lemmas and contracts of functions: l1Ctors of the reference, and CtorsOf of both. Conditions: none for CtorsOf. Slices of numbers. Conditions: none. A number in a list: slices.Contains and l1Has. Conditions: none. ArgTypes of the reference and of the program. Conditions: none. Least depths of values, in plain Lean: sweeps over a table reach a fixed point after ls many sweeps ls there are entries and one more. Conditions: the world is valid. l2Fits of the reference: a value fits a type. Conditions: the world is valid, the depth is no more than 10. l2Count of the reference. Conditions: no more than two million nodes. Writing every part of a datum anew (mark) and reading it back (held): what changes in memory. Conditions: none. valueScan of the program, without holes. Conditions: the world is valid. ValueValid of both. Conditions: no more than a million nodes. Texts of values: plain laws. Conditions: none. FormatValue of the reference. Conditions: none. strings.Join: its contract at this program (laid by the kit's tool), and in the words of these texts. Conditions: the lists and the result are short. listed of the program. Conditions: no more than 1000 texts. strconv.Itoa at one digit. Conditions: none.
-/
import Derived.Test.YtlkkfbkghodncaaDoorKAB
import Derived.Deep.RegionHeld3
import Derived.Deep.RegionWith
import Derived.Test.YtlkkfbkghodncaaDoorKAA
import Derived.Test.YtlkkfbkghodncaaDoorChecked
import Derived.Deep.QuietTactic
import Derived.BigQuiet
import Derived.IntWalk
import Derived.Shelf.Strings.Builder1
import Derived.Shelf.Strings.Builder2
import Derived.Shelf.Strings.OnBuilder

set_option linter.unusedVariables false
set_option linter.unusedSimpArgs false

namespace Go.Proofs.YtlkkfbkghodncaaDoor
open Go.RowKit

/-- what CtorsOf gives -/
def ctorsOfL (xs : List Dt) (t : Ty) : List Int := if typeValidB xs t = true then ctorsL xs t else []
theorem sumBy_one {α : Type} {f : α → Nat} (h : ∀ x, f x = 1) (xs : List α) : sumBy f xs = xs.length := by
  induction xs with
  | nil => rfl
  | cons x xs ih => rw [sumBy, ih, h, List.length_cons]; omega
theorem ctorsOfL_len (xs : List Dt) (t : Ty) : (ctorsOfL xs t).length ≤ 4 := by
  unfold ctorsOfL
  split
  · rename_i h
    obtain ⟨hw, ht⟩ := typeValid_split h
    rcases typeOkB_in ht with hd | ⟨d, hd, hdl⟩
    · rw [ctorsL_int hd]; simp
    · obtain ⟨t1, t2⟩ := t
      simp only at hd
      subst hd
      rw [ctorsL_data hdl]
      exact Nat.le_trans (fitTo_len _ _ _) (hw.at hdl).hi
  · simp

set_option maxRecDepth 100000 in
set_option maxHeartbeats 1600000 in
theorem spec_l1Fits (c : Kt) (i : Int) (A : Option Addr) (n cap : Nat) (w : World) : Calls Tryd.prog 67 #[.agg #[.string c.name, .slice A n cap, .int .i64 c.idx], .int .i64 i] w fun e w' => e = .returned (.bool (fitsB c i)) ∧ Below w.heap.size w w' := by
  cases q1 : (c.idx == 0) with
  | true =>
    have hf : Hid (fitsB c i = true) := by unfold Hid fitsB; rw [q1, Bool.true_or]
    go_enter Tryd.func67, Tryd.ntmps67
    go_wp2
    go_ret
    exact ⟨ret_bool hf.out.symm, (Below.refl _ _).alloc (Nat.le_refl _) _⟩
  | false =>
    cases q0 : (i == 0) with
    | true =>
      have hf : Hid (fitsB c i = true) := by unfold Hid fitsB; rw [q0, Bool.true_or, Bool.or_true]
      go_enter Tryd.func67, Tryd.ntmps67
      go_wp2
      go_ret
      exact ⟨ret_bool hf.out.symm, (Below.refl _ _).alloc (Nat.le_refl _) _⟩
    | false =>
      have hf : Hid (fitsB c i = (c.idx == i)) := by unfold Hid fitsB; rw [q0, q1, Bool.false_or, Bool.false_or]
      go_enter Tryd.func67, Tryd.ntmps67
      go_wp2
      go_ret
      exact ⟨ret_bool hf.out.symm, (Below.refl _ _).alloc (Nat.le_refl _) _⟩
set_option maxRecDepth 100000 in
set_option maxHeartbeats 1600000 in
theorem spec_l1Ctors (xs : List Dt) (t : Ty) (w : World) (v : Value) (F : List Nat) (hx : Arr w (DtR w) xs v F) (hf : Under w.heap.size F) (hw : WorldOK xs) (ht : InWorld xs.length t) :
    Calls Tryd.prog 54 #[v, .agg #[.int .i64 t.d, .int .i64 t.i]] w (MadeNats w (ctorsL xs t)) := by
  obtain ⟨A, cap, rfl, hc1, hc2⟩ := hx.form
  have HX := Lib.hid hx
  have HF := Lib.hid hf
  clear hx hf
  rcases ht with hd | ⟨d, hd, hdl⟩
  · have hf := Lib.hid (ctorsL_int (xs := xs) hd)
    have t0 : (t.d == -1) = true := by simp [hd]
    clear hd
    go_enter Tryd.func54, Tryd.ntmps54
    go_wp2
    go_ret
    rw [hf.out]
    exact ⟨_, [], rfl, ((Below.refl _ _).alloc (Nat.le_refl _) _).alloc (by simp) _, ⟨_, _, rfl, by simp, by simp [maxLen], .inl ⟨rfl, rfl⟩⟩, Free.nil _, Fresh.nil _ _⟩
  · obtain ⟨t1, t2⟩ := t
    simp only at hd
    subst hd
    have hf := Lib.hid (ctorsL_data (i := t2) hdl)
    have t0 : ((d : Int) == -1) = false := by rw [beq_eq_false_iff_ne]; omega
    obtain ⟨i0, hi, hz0, hz1, hz2⟩ := info_parts info_int
    have HI := Lib.hid hi
    have HZ0 := Lib.hid hz0
    have HZ1 := Lib.hid hz1
    have HZ2 := Lib.hid hz2
    clear hi hz0 hz1 hz2
    obtain ⟨b, off, rfl⟩ := HX.out.ptr (by omega)
    have hB0 : Below w.heap.size w ((w.alloc (.cells #[.int .i64 (d : Int), .int .i64 t2] 33)).alloc (.cells #[] 3)) := ((Below.refl _ _).alloc (Nat.le_refl _) _).alloc (by simp) _
    have KT0 : Hid (Blk ((w.alloc (.cells #[.int .i64 (d : Int), .int .i64 t2] 33)).alloc (.cells #[] 3)) w.heap.size 33 #[.int .i64 (d : Int), .int .i64 t2]) := (Blk.new _ _ _).same (Below.heap_alloc _ _ _ (by simp))
    have HO0 : Hid (Own ((w.alloc (.cells #[.int .i64 (d : Int), .int .i64 t2] 33)).alloc (.cells #[] 3)) (w.heap.size + 1) 3 1 NatR ([] : List Int) (.slice (some ⟨w.heap.size + 1, 0, none⟩) 0 0) []) := by
      have h := Own.made (w.alloc (.cells #[.int .i64 (d : Int), .int .i64 t2] 33)) (w.heap.size + 1) 3 1 NatR #[] 0 (by simp) (by simp [maxLen]) rfl
      rwa [World.size_alloc] at h
    have g1 : (0 : Int) ≤ (d : Int) := by omega
    have g2 : (d : Int) < (xs.length : Int) := by omega
    have HL := Lib.hid (hw.at hdl).hi
    go_enter Tryd.func54, Tryd.ntmps54
    go_wp2
    go_loopw [5, 6] (fun ov iv wr => ∃ k : Nat, k ≤ xs[d].ctors.length ∧ iv = .int .i64 k ∧ Hid (Own wr (w.heap.size + 1) 3 1 NatR (fitTo xs[d].ctors t2 k) ov []) ∧ Below w.heap.size w wr ∧ Hid (Blk wr w.heap.size 33 #[.int .i64 (d : Int), .int .i64 t2])) (fun _ iv _ => xs[d].ctors.length - (intOf iv).toNat)
    case atStart => exact ⟨0, Nat.zero_le _, rfl, HO0, hB0, KT0⟩
    case round =>
      clear hB0 KT0 HO0
      obtain ⟨k, hk, rfl, HO, hB, KT⟩ := hrel
      obtain ⟨A1, cap1, G1, hb, c0, c1, HK, HG, hs, hn1, hn2⟩ := ArrDt.at HX.out HF.out hB d hdl
      clear c0 hs
      have y0 : wr.cell? ⟨w.heap.size, 0, none⟩ = some (.int .i64 (d : Int)) := (KT.out.cell 0).trans (by simp)
      have y1 : wr.cell? ⟨w.heap.size, 1, none⟩ = some (.int .i64 t2) := (KT.out.cell 1).trans (by simp)
      have hy1 := KT.out.lt
      by_cases hkl : k < xs[d].ctors.length
      · obtain ⟨b2, off2, rfl⟩ := HK.out.ptr (by omega)
        obtain ⟨A3, cap3, G3, hb3, k0, k1, k2, HC, HG3, -, -, -⟩ := ArrKt.rep HK.out HG.out hB k hkl
        have g3 : (0 : Int) ≤ (k : Int) := by omega
        have g4 : (k : Int) < (xs[d].ctors.length : Int) := by omega
        go_wp2_with fail
        have hkeep : ∀ U U' : World, (U.cell? ⟨w.heap.size, 0, none⟩ = some (.int .i64 (d : Int)) ∧ U.cell? ⟨w.heap.size, 1, none⟩ = some (.int .i64 t2) ∧ U.cell? ⟨b, off + d * 2 + 1, none⟩ = some (.slice (some ⟨b2, off2, none⟩) xs[d].ctors.length cap1) ∧ U.cell? ⟨b2, off2 + k * 3, none⟩ = some (.string xs[d].ctors[k].name) ∧ U.cell? ⟨b2, off2 + k * 3 + 1, none⟩ = some (.slice A3 xs[d].ctors[k].args.length cap3) ∧ U.cell? ⟨b2, off2 + k * 3 + 2, none⟩ = some (.int .i64 xs[d].ctors[k].idx)) → Below U.heap.size U U' → wr.heap.size ≤ U.heap.size → (U'.cell? ⟨w.heap.size, 0, none⟩ = some (.int .i64 (d : Int)) ∧ U'.cell? ⟨w.heap.size, 1, none⟩ = some (.int .i64 t2) ∧ U'.cell? ⟨b, off + d * 2 + 1, none⟩ = some (.slice (some ⟨b2, off2, none⟩) xs[d].ctors.length cap1) ∧ U'.cell? ⟨b2, off2 + k * 3, none⟩ = some (.string xs[d].ctors[k].name) ∧ U'.cell? ⟨b2, off2 + k * 3 + 1, none⟩ = some (.slice A3 xs[d].ctors[k].args.length cap3) ∧ U'.cell? ⟨b2, off2 + k * 3 + 2, none⟩ = some (.int .i64 xs[d].ctors[k].idx)) := fun U U' h hUU hU => ⟨(hUU.cell (Nat.lt_of_lt_of_le (KT.out.lt) hU)).trans h.1, (hUU.cell (Nat.lt_of_lt_of_le (KT.out.lt) hU)).trans h.2.1, (hUU.cell (Nat.lt_of_lt_of_le (hb) hU)).trans h.2.2.1, (hUU.cell (Nat.lt_of_lt_of_le (hb3) hU)).trans h.2.2.2.1, (hUU.cell (Nat.lt_of_lt_of_le (hb3) hU)).trans h.2.2.2.2.1, (hUU.cell (Nat.lt_of_lt_of_le (hb3) hU)).trans h.2.2.2.2.2⟩
        have HKeep := Lib.hid hkeep
        clear hkeep
        go_region_held3 (fun w' => w'.cell? ⟨w.heap.size, 0, none⟩ = some (.int .i64 (d : Int)) ∧ w'.cell? ⟨w.heap.size, 1, none⟩ = some (.int .i64 t2) ∧ w'.cell? ⟨b, off + d * 2 + 1, none⟩ = some (.slice (some ⟨b2, off2, none⟩) xs[d].ctors.length cap1) ∧ w'.cell? ⟨b2, off2 + k * 3, none⟩ = some (.string xs[d].ctors[k].name) ∧ w'.cell? ⟨b2, off2 + k * 3 + 1, none⟩ = some (.slice A3 xs[d].ctors[k].args.length cap3) ∧ w'.cell? ⟨b2, off2 + k * 3 + 2, none⟩ = some (.int .i64 xs[d].ctors[k].idx)) (first | assumption | (exact ⟨y0, y1, c1, k0, k1, k2⟩) | (exact HKeep.out wr.drew w' ⟨y0, y1, c1, k0, k1, k2⟩ hB' (Nat.le_refl _))) (first | (go_at_call 67; ((with_reducible refine (spec_l1Fits xs[d].ctors[k] t2 _ _ _ _).mono ?_); rintro e w' ⟨rfl, hB'⟩)))
        have hB1 := hB.drew.trans (hB'.mono hB.size)
        have HO1 : Hid (Own w' (w.heap.size + 1) 3 1 NatR (fitTo xs[d].ctors t2 k) u5 []) := Own.below (fun x cs G hk h => NatR_mono _ _ x cs G hk h) (w := wr) HO.out (below_undrew hB')
        have KT1 : Hid (Blk w' w.heap.size 33 #[.int .i64 (d : Int), .int .i64 t2]) := KT.out.same (hB'.block _ KT.out.lt)
        have hsz1 : wr.heap.size ≤ w'.heap.size := hB'.size
        have hz1' : w.heap.size + 1 ≤ wr.heap.size := KT.out.lt
        clear HKeep
        cases e1 : fitsB xs[d].ctors[k] t2 with
        | false =>
          have HF2 := Lib.hid (fitTo_no hkl e1)
          clear e1
          go_wp2
          go_roundw
          case rel => exact ⟨k + 1, by omega, by go_num, (by rw [HF2.out]; exact HO1.out), hB1, KT1⟩
          case measure => (simp [intOf] <;> omega)
        | true =>
          have HF2 := Lib.hid (fitTo_yes hkl e1)
          clear e1
          have hlen := fitTo_len xs[d].ctors t2 k
          go_wp2_with (at_builtin; refine Halt.mk ?_)
          refine Halt.of (wpList_push1 (P := Tryd.prog) rfl _ _ 86 rfl i0 _ 8 Tryd.underlying86 HI.out HZ0.out HZ1.out HZ2.out rfl Nat.zero_lt_one NatR_len NatR_mono (by rfl) HO1.out (k : Int) 3 [.int .i64 (k : Int)] [] _ (by rfl) (by simp) (by simp [Value.oneCell']) ⟨rfl, rfl⟩ (Under.nil _) (fun _ _ h => by cases h) (by have := HL.out; unfold maxLen; omega) (by have := HL.out; omega) (Nat.le_trans hz1' hsz1) ?_)
          intro g cp w3 hown3 hgr3 hat3
          have hrow := HO1.out.row
          have hB3 : Below w.heap.size w w3 := (hB1.alloc hB1.size _).grown hgr3 (by have := hB1.size; simp; omega) (fun g hg => by have := hrow g (mem_rowOf.2 hg); omega)
          have HO3 := Lib.hid hown3
          have KT3 : Hid (Blk w3 w.heap.size 33 #[.int .i64 (d : Int), .int .i64 t2]) := (KT1.out.same (Below.heap_alloc _ _ _ KT1.out.lt)).same (hgr3.block _ (by have := KT1.out.lt; simp; omega) (fun e => by have := hrow _ (mem_rowOf.2 e.symm); omega))
          have hsz3 := hgr3.size
          clear hown3 hgr3 hat3 hrow hlen
          go_wp2
          go_roundw
          case rel => exact ⟨k + 1, by omega, by go_num, (by rw [HF2.out]; exact HO3.out), hB3, KT3⟩
          case measure => (simp [intOf] <;> omega)
      · have hfin : MadeNats w (ctorsL xs ⟨(d : Int), t2⟩) (.returned u5) wr := by
          rw [hf.out]
          have h := HO.out
          rw [show k = xs[d].ctors.length by omega] at h
          exact h.nats hB (by omega)
        have HFin := Lib.hid hfin
        clear hfin
        go_wp2
        go_ret
        exact HFin.out
end Go.Proofs.YtlkkfbkghodncaaDoor

namespace Go.Proofs.YtlkkfbkghodncaaDoor
open Go.RowKit

theorem ArrNat.at {w0 w : World} {b off n cap : Nat} {F : List Nat} {xs : List Int} (h : Arr w0 (NatR w0) xs (.slice (some ⟨b, off, none⟩) n cap) F) (hF : Under w0.heap.size F) (hB : Below w0.heap.size w0 w) (i : Nat) (hi : i < xs.length) :
    b < w.heap.size ∧ w.cell? ⟨b, off + i, none⟩ = some (.int .i64 xs[i]) := by
  obtain ⟨b', off', cs, G, e, hb, hcs, hv, hG⟩ := h.get (NatR_len _) hi
  cases e
  have hbl := hF _ hb
  have hc := hcs.same (hB.block _ hbl)
  obtain ⟨rfl, -⟩ := hv
  have := hc 0 _ rfl
  rw [Nat.mul_one] at this
  exact ⟨Nat.lt_of_lt_of_le hbl hB.size, this⟩
theorem ArrNat.below {w w' : World} {B : Nat} {vs : List Int} {x : Value} {F : List Nat} (h : Arr w (NatR w) vs x F) (hb : Below B w w') (hF : Under B F) : Arr w' (NatR w') vs x F := h.mono (.of_below hb hF) fun v _ cs G hk h => NatR_mono _ _ v cs G hk h
theorem ArrNat.kept {w w' : World} {vs : List Int} {x : Value} {F : List Nat} (h : Arr w (NatR w) vs x F) (hF : Kept F w w') : Arr w' (NatR w') vs x F := h.mono hF fun v _ cs G hk h => NatR_mono _ _ v cs G hk h
theorem ArrNat.drew {w : World} {vs : List Int} {x : Value} {F : List Nat} (h : Arr w (NatR w) vs x F) : Arr w.drew (NatR w.drew) vs x F := ArrNat.kept (w := w) h (fun _ _ => rfl)
end Go.Proofs.YtlkkfbkghodncaaDoor

namespace Go.Proofs.YtlkkfbkghodncaaDoor
open Go.RowKit

def hasB (xs : List Int) (n : Int) : Bool := xs.any fun x => n == x
theorem hasB_iff (xs : List Int) (n : Int) : hasB xs n = true ↔ n ∈ xs := by
  unfold hasB
  rw [List.any_eq_true]
  exact ⟨fun ⟨x, h, e⟩ => by rw [beq_iff_eq] at e; rw [e]; exact h, fun h => ⟨n, h, by simp⟩⟩

set_option maxRecDepth 100000 in
set_option maxHeartbeats 1600000 in
theorem Index_int (xs : List Int) (n r : Int) (hr : FirstAt (fun x => n == x) xs r) (w : World) (x : Value) (F : List Nat) (hx : Arr w (NatR w) xs x F) (hf : Under w.heap.size F) :
    Calls Tryd.prog 72 #[x, .int .i64 n] w fun e w' => e = .returned (.int .i64 r) ∧ Below w.heap.size w w' := by
  obtain ⟨A, cap, rfl, hc1, hc2⟩ := hx.form
  have HX := Lib.hid hx
  have HF := Lib.hid hf
  have HR := Lib.hid hr
  clear hx hf hr
  go_enter Tryd.func72, Tryd.ntmps72
  go_wp2
  go_loopw [8] (fun i wr => ∃ k : Nat, k ≤ xs.length ∧ i = .int .i64 k ∧ Hid (∀ j (hj : j < xs.length), j < k → (n == xs[j]) = false) ∧ Below w.heap.size w wr) (fun i _ => xs.length - (intOf i).toNat)
  case atStart => exact ⟨0, Nat.zero_le _, rfl, fun j hj h => by omega, Below.refl _ _⟩
  case round =>
    obtain ⟨k, hk, rfl, HT, hB⟩ := hrel
    by_cases hlt : k < xs.length
    · have g1 : (0 : Int) ≤ (k : Int) := by omega
      have g2 : (k : Int) < (xs.length : Int) := by omega
      obtain ⟨b, off, rfl⟩ := HX.out.ptr (by omega)
      obtain ⟨hb, c0⟩ := ArrNat.at HX.out HF.out hB k hlt
      cases hq : (n == xs[k]) with
      | true =>
        have hf := Lib.hid (HR.out.hit hlt hq (fun j hj h => HT.out j hj h))
        go_wp2
        go_ret
        exact ⟨ret_int hf.out.symm, hB⟩
      | false =>
        have hT2 : Hid (∀ j (hj : j < xs.length), j < k + 1 → (n == xs[j]) = false) := fun j hj h => by
          rcases Nat.lt_or_ge j k with h2 | h2
          · exact HT.out j hj h2
          · obtain rfl : j = k := by omega
            exact hq
        go_wp2
        go_roundw
        case rel => exact ⟨k + 1, by omega, by go_num, hT2, hB⟩
        case measure => (simp [intOf] <;> omega)
    · have hf : Hid (r = -1) := HR.out.miss (fun j hj => HT.out j hj (by omega))
      go_wp2
      go_ret
      exact ⟨ret_int hf.out.symm, hB⟩

set_option maxRecDepth 100000 in
set_option maxHeartbeats 1600000 in
theorem impl_has (xs : List Int) (n : Int) (w : World) (x : Value) (F : List Nat) (hx : Arr w (NatR w) xs x F) (hf : Under w.heap.size F) :
    Calls Tryd.prog 58 #[x, .int .i64 n] w fun e w' => e = .returned (.bool (hasB xs n)) ∧ Below w.heap.size w w' := by
  obtain ⟨r, hr⟩ := FirstAt.ex (fun x => n == x) xs
  have hres : Hid (hasB xs n = decide (0 ≤ r)) := hr.any
  have hcall := Index_int xs n r hr w x F hx hf
  obtain ⟨A, cap, rfl, hc1, hc2⟩ := hx.form
  have HC := Lib.hid hcall
  clear hcall hr hx hf
  go_enter Tryd.func58, Tryd.ntmps58
  go_wp2_with fail
  refine HC.out.mono ?_
  rintro e w' ⟨rfl, hB'⟩
  go_wp2
  go_ret
  exact ⟨ret_bool hres.out.symm, hB'⟩
theorem any_drop {α : Type} (p : α → Bool) (l : List α) (k : Nat) (h : k < l.length) : (l.drop k).any p = (p l[k] || (l.drop (k + 1)).any p) := by
  rw [List.drop_eq_getElem_cons h]; rfl

set_option maxRecDepth 100000 in
set_option maxHeartbeats 1600000 in
theorem spec_l1Has (xs : List Int) (n : Int) (w : World) (x : Value) (F : List Nat) (hx : Arr w (NatR w) xs x F) (hf : Under w.heap.size F) :
    Calls Tryd.prog 53 #[x, .int .i64 n] w fun e w' => e = .returned (.bool (hasB xs n)) ∧ Below w.heap.size w w' := by
  obtain ⟨A, cap, rfl, hc1, hc2⟩ := hx.form
  have HX := Lib.hid hx
  have HF := Lib.hid hf
  clear hx hf
  go_enter Tryd.func53, Tryd.ntmps53
  go_wp2
  go_loopw [5] (fun i wr => ∃ k : Nat, k ≤ xs.length ∧ i = .int .i64 k ∧ Hid (hasB xs n = (xs.drop k).any fun x => n == x) ∧ Below w.heap.size w wr) (fun i _ => xs.length - (intOf i).toNat)
  case atStart => exact ⟨0, Nat.zero_le _, rfl, (show hasB xs n = hasB xs n from rfl), Below.refl _ _⟩
  case round =>
    obtain ⟨k, hk, rfl, HT, hB⟩ := hrel
    by_cases hlt : k < xs.length
    · have g1 : (0 : Int) ≤ (k : Int) := by omega
      have g2 : (k : Int) < (xs.length : Int) := by omega
      obtain ⟨b, off, rfl⟩ := HX.out.ptr (by omega)
      obtain ⟨hb, c0⟩ := ArrNat.at HX.out HF.out hB k hlt
      have hd := HT.out
      rw [any_drop _ xs k hlt] at hd
      cases hq : (xs[k] == n) with
      | true =>
        have hq2 : (n == xs[k]) = true := by rw [beq_iff_eq] at hq ⊢; exact hq.symm
        rw [hq2, Bool.true_or] at hd
        have hf := Lib.hid hd
        clear hd hq2
        go_wp2
        go_ret
        exact ⟨ret_bool hf.out.symm, hB⟩
      | false =>
        have hq2 : (n == xs[k]) = false := by rw [beq_eq_false_iff_ne] at hq ⊢; exact fun e => hq e.symm
        rw [hq2, Bool.false_or] at hd
        have HT2 := Lib.hid hd
        clear hd hq2
        go_wp2
        go_roundw
        case rel => exact ⟨k + 1, by omega, by go_num, HT2, hB⟩
        case measure => (simp [intOf] <;> omega)
    · have hd := HT.out
      rw [List.drop_of_length_le (by omega)] at hd
      have hf := Lib.hid hd
      clear hd
      go_wp2
      go_ret
      exact ⟨ret_bool hf.out.symm, hB⟩
end Go.Proofs.YtlkkfbkghodncaaDoor

namespace Go.Proofs.YtlkkfbkghodncaaDoor
open Go.RowKit

def ctorAt (xs : List Dt) (t : Ty) (k : Int) : Option Kt := (ctorsAt xs t.d)[k.toNat]?
/-- the types of the arguments of constructor k for type t -/
def argsOf (xs : List Dt) (t : Ty) (k : Int) : List Ty := match ctorAt xs t k with | some c => argsL c t.i | none => []
def argTypesL (xs : List Dt) (t : Ty) (k : Int) : List Ty := if hasB (ctorsOfL xs t) k = true then argsOf xs t k else []
theorem argsOf_get {xs : List Dt} {d k : Nat} {i : Int} (hd : d < xs.length) (hk : k < xs[d].ctors.length) : argsOf xs ⟨(d : Int), i⟩ (k : Int) = argsL xs[d].ctors[k] i := by
  unfold argsOf ctorAt
  simp only
  rw [ctorsAt_get hd, Int.toNat_natCast, List.getElem?_eq_getElem hk]
theorem mem_fitTo {cs : List Kt} {i : Int} {m : Nat} {n : Int} (h : n ∈ fitTo cs i m) : ∃ k : Nat, n = (k : Int) ∧ k < m := by
  unfold fitTo at h
  obtain ⟨k, hk, rfl⟩ := List.mem_map.1 h
  have := (List.mem_filter.1 hk).1
  exact ⟨k, rfl, by simpa using this⟩
theorem mem_ctorsL {xs : List Dt} {t : Ty} {n : Int} (ht : InWorld xs.length t) (h : n ∈ ctorsL xs t) : ∃ d k : Nat, t.d = (d : Int) ∧ n = (k : Int) ∧ ∃ hd : d < xs.length, k < xs[d].ctors.length := by
  rcases ht with hd | ⟨d, hd, hdl⟩
  · rw [ctorsL_int hd] at h; cases h
  · obtain ⟨t1, t2⟩ := t
    simp only at hd
    subst hd
    rw [ctorsL_data hdl] at h
    obtain ⟨k, rfl, hk⟩ := mem_fitTo h
    exact ⟨d, k, rfl, rfl, hdl, hk⟩
theorem argTypesL_no {xs : List Dt} {t : Ty} {k : Int} (h : hasB (ctorsOfL xs t) k = false) : argTypesL xs t k = [] := if_neg (by simp [h])
theorem argTypesL_yes {xs : List Dt} {t : Ty} {k : Int} (h : hasB (ctorsOfL xs t) k = true) : argTypesL xs t k = argsOf xs t k ∧ WorldOK xs ∧ ∃ (d m : Nat) (hd : d < xs.length), t.d = (d : Int) ∧ k = (m : Int) ∧ m < xs[d].ctors.length := by
  refine ⟨if_pos h, ?_⟩
  rw [hasB_iff] at h
  unfold ctorsOfL at h
  split at h
  · rename_i hv
    obtain ⟨hw, hto⟩ := typeValid_split hv
    obtain ⟨d, m, h1, h2, hd, hm⟩ := mem_ctorsL (typeOkB_in hto) h
    exact ⟨hw, d, m, hd, h1, h2, hm⟩
  · cases h
theorem argTypesL_len (xs : List Dt) (t : Ty) (k : Int) : (argTypesL xs t k).length ≤ 3 := by
  cases h : hasB (ctorsOfL xs t) k with
  | false => rw [argTypesL_no h]; simp
  | true =>
    obtain ⟨e, hw, d, m, hd, h1, h2, hm⟩ := argTypesL_yes h
    obtain ⟨t1, t2⟩ := t
    simp only at h1
    subst h1 h2
    rw [e, argsOf_get hd hm, argsL_len]
    exact (hw.ctor hd hm).args

end Go.Proofs.YtlkkfbkghodncaaDoor

namespace Go.Proofs.YtlkkfbkghodncaaDoor
open Go.RowKit

def slotOf (t : Ty) : Nat := t.d.toNat * 4 + t.i.toNat
def tyAt (s : Nat) : Ty := ⟨((s / 4 : Nat) : Int), ((s % 4 : Nat) : Int)⟩
/-- the depth that a table has for a type, 0 for none -/
def depthIn (tab : List Int) (t : Ty) : Int := if t.d = -1 then 1 else tab.getD (slotOf t) 0
def mostGo (tab : List Int) : Int → List Ty → Int
  | m, [] => m + 1
  | m, a :: ls => if depthIn tab a = 0 then 0 else mostGo tab (max m (depthIn tab a)) ls
def mostIn (xs : List Dt) (tab : List Int) (t : Ty) (k : Int) : Int := mostGo tab 0 (argsOf xs t k)
/-- one constructor of slot s looked at -/
def better (tab : List Int) (s : Nat) (n : Int) : Bool := decide (0 < n) && (decide (tab.getD s 0 = 0) || decide (n < tab.getD s 0))
def putIf (tab : List Int) (s : Nat) (n : Int) : List Int := if better tab s n = true then tab.set s n else tab
def slotGo (xs : List Dt) (s : Nat) (tab : List Int) (ks : List Int) : List Int := ks.foldl (fun tab k => putIf tab s (mostIn xs tab (tyAt s) k)) tab
def sweepTo (xs : List Dt) (tab : List Int) (s : Nat) : List Int := (List.range s).foldl (fun tab s => slotGo xs s tab (ctorsL xs (tyAt s))) tab
def sweep (xs : List Dt) (tab : List Int) : List Int := sweepTo xs tab (xs.length * 4)
def sweeps (xs : List Dt) : Nat → List Int
  | 0 => List.replicate (xs.length * 4) 0
  | n + 1 => sweep xs (sweeps xs n)
def tableL (xs : List Dt) : List Int := sweeps xs (xs.length * 4 + 1)

theorem putIf_length (tab : List Int) (s : Nat) (n : Int) : (putIf tab s n).length = tab.length := by unfold putIf; split <;> simp
theorem slotGo_nil (xs : List Dt) (s : Nat) (tab : List Int) : slotGo xs s tab [] = tab := rfl
theorem slotGo_cons (xs : List Dt) (s : Nat) (tab : List Int) (k : Int) (ks : List Int) : slotGo xs s tab (k :: ks) = slotGo xs s (putIf tab s (mostIn xs tab (tyAt s) k)) ks := rfl
theorem slotGo_snoc (xs : List Dt) (s : Nat) (tab : List Int) (ks : List Int) (k : Int) : slotGo xs s tab (ks ++ [k]) = putIf (slotGo xs s tab ks) s (mostIn xs (slotGo xs s tab ks) (tyAt s) k) := by
  unfold slotGo; rw [List.foldl_append]; rfl
theorem slotGo_length (xs : List Dt) (s : Nat) : ∀ (ks : List Int) (tab : List Int), (slotGo xs s tab ks).length = tab.length
  | [], tab => rfl
  | k :: ks, tab => by rw [slotGo_cons, slotGo_length xs s ks, putIf_length]
theorem sweepTo_zero (xs : List Dt) (tab : List Int) : sweepTo xs tab 0 = tab := rfl
theorem sweepTo_succ (xs : List Dt) (tab : List Int) (s : Nat) : sweepTo xs tab (s + 1) = slotGo xs s (sweepTo xs tab s) (ctorsL xs (tyAt s)) := by
  unfold sweepTo; rw [List.range_succ, List.foldl_append]; rfl
theorem sweepTo_length (xs : List Dt) (tab : List Int) : ∀ s, (sweepTo xs tab s).length = tab.length
  | 0 => rfl
  | s + 1 => by rw [sweepTo_succ, slotGo_length, sweepTo_length xs tab s]
theorem sweeps_length (xs : List Dt) : ∀ n, (sweeps xs n).length = xs.length * 4
  | 0 => by simp [sweeps]
  | n + 1 => by show (sweepTo xs _ _).length = _; rw [sweepTo_length, sweeps_length xs n]

/-! ### Types with a value of a depth -/
def hasD (xs : List Dt) : Nat → Ty → Prop
  | 0, _ => False
  | n + 1, t => t.d = -1 ∨ ∃ k ∈ ctorsL xs t, ∀ a ∈ argsOf xs t k, hasD xs n a
theorem hasD_mono {xs : List Dt} : ∀ {n : Nat} {t : Ty}, hasD xs n t → hasD xs (n + 1) t
  | 0, _, h => h.elim
  | n + 1, t, h => by
    rcases h with h | ⟨k, hk, h⟩
    · exact .inl h
    · exact .inr ⟨k, hk, fun a ha => hasD_mono (h a ha)⟩
theorem hasD_le {xs : List Dt} {n m : Nat} {t : Ty} (h : hasD xs n t) (hm : n ≤ m) : hasD xs m t := by
  induction hm with
  | refl => exact h
  | step _ ih => exact hasD_mono ih
/-- a type of values in the world -/
def TyIn (n : Nat) (t : Ty) : Prop := t.d = -1 ∨ ∃ d i : Nat, t = ⟨(d : Int), (i : Int)⟩ ∧ d < n ∧ i < 4
theorem TyIn.inWorld {n : Nat} {t : Ty} (h : TyIn n t) : InWorld n t := by
  rcases h with h | ⟨d, i, rfl, h1, h2⟩
  · exact .inl h
  · exact .inr ⟨d, rfl, h1⟩
theorem typeOkB_tyIn {n : Nat} {t : Ty} (h : typeOkB n t = true) : TyIn n t := by
  unfold typeOkB at h
  by_cases e : t.d = -1
  · exact .inl e
  · rw [if_neg e] at h
    simp [withinB] at h
    refine .inr ⟨t.d.toNat, t.i.toNat, ?_, by omega, by omega⟩
    obtain ⟨t1, t2⟩ := t
    simp only at h ⊢
    congr 1 <;> omega
theorem slotOf_mk (d i : Nat) : slotOf ⟨(d : Int), (i : Int)⟩ = d * 4 + i := by unfold slotOf; simp
theorem tyAt_mk {d i : Nat} (h : i < 4) : tyAt (d * 4 + i) = ⟨(d : Int), (i : Int)⟩ := by
  unfold tyAt
  rw [show (d * 4 + i) / 4 = d by omega, show (d * 4 + i) % 4 = i by omega]
theorem TyIn.slot {n : Nat} {t : Ty} (h : TyIn n t) (hd : ¬ t.d = -1) : slotOf t < n * 4 ∧ tyAt (slotOf t) = t := by
  rcases h with h | ⟨d, i, rfl, h1, h2⟩
  · exact absurd h hd
  · rw [slotOf_mk, tyAt_mk h2]
    exact ⟨by omega, rfl⟩
theorem tyAt_in {n s : Nat} (h : s < n * 4) : TyIn n (tyAt s) := .inr ⟨s / 4, s % 4, rfl, by omega, by omega⟩
theorem tyAt_slot (s : Nat) : slotOf (tyAt s) = s := by
  unfold tyAt
  rw [slotOf_mk]
  omega
theorem tyAt_not (s : Nat) : ¬ (tyAt s).d = -1 := by unfold tyAt; simp only; omega
theorem argTy_in {n : Nat} {c : Kt} (hc : KtOk n c) {i : Int} (h0 : 0 ≤ i) (h3 : i ≤ 3) {a : Ty} (ha : a ∈ argsL c i) : TyIn n a := by
  unfold argsL at ha
  obtain ⟨b, hb, rfl⟩ := List.mem_map.1 ha
  have hok := hc.all b hb
  have hr : 0 ≤ resIdx c i ∧ resIdx c i ≤ 3 := by
    unfold resIdx
    split
    · exact ⟨h0, h3⟩
    · exact ⟨hc.lo, hc.hi⟩
  unfold argOkB at hok
  cases q : (b.i == -1) with
  | true =>
    rw [argTy_yes q]
    by_cases e : b.d = -1
    · exact .inl e
    · rw [if_neg e] at hok
      simp [withinB] at hok
      refine .inr ⟨b.d.toNat, (resIdx c i).toNat, ?_, by omega, by omega⟩
      congr 1 <;> omega
  | false =>
    rw [argTy_no q]
    have q' : ¬ b.i = -1 := by simpa using q
    by_cases e : b.d = -1
    · exact .inl e
    · rw [if_neg e] at hok
      simp [withinB] at hok
      refine .inr ⟨b.d.toNat, b.i.toNat, ?_, by omega, by omega⟩
      obtain ⟨b1, b2⟩ := b
      simp only at hok q' ⊢
      congr 1 <;> omega
theorem argsOf_in {xs : List Dt} (hw : WorldOK xs) {t : Ty} (ht : TyIn xs.length t) {k : Int} (hk : k ∈ ctorsL xs t) {a : Ty} (ha : a ∈ argsOf xs t k) : TyIn xs.length a := by
  rcases ht with h | ⟨d, i, rfl, h1, h2⟩
  · rw [ctorsL_int h] at hk; cases hk
  · obtain ⟨d', m, e1, rfl, hd, hm⟩ := mem_ctorsL (.inr ⟨d, rfl, h1⟩) hk
    obtain rfl : d = d' := Int.ofNat.inj e1
    rw [argsOf_get hd hm] at ha
    exact argTy_in (hw.ctor hd hm) (by omega) (by omega) ha

/-! ### What an entry says -/
theorem mostGo_zero {tab : List Int} : ∀ {ls : List Ty} {m : Int}, 0 ≤ m → mostGo tab m ls = 0 → ∃ a ∈ ls, depthIn tab a = 0
  | [], m, h0, h => by simp only [mostGo] at h; omega
  | a :: ls, m, h0, h => by
    simp only [mostGo] at h
    split at h
    · rename_i e; exact ⟨a, by simp, e⟩
    · obtain ⟨b, hb, e⟩ := mostGo_zero (by omega) h
      exact ⟨b, by simp [hb], e⟩
theorem mostGo_pos {tab : List Int} (hp : ∀ a, 0 ≤ depthIn tab a) : ∀ {ls : List Ty} {m : Int}, 0 ≤ m → (∀ a ∈ ls, depthIn tab a ≠ 0) → m < mostGo tab m ls ∧ ∀ a ∈ ls, depthIn tab a < mostGo tab m ls
  | [], m, h0, _ => by simp only [mostGo]; exact ⟨by omega, fun a h => by cases h⟩
  | a :: ls, m, h0, h => by
    simp only [mostGo]
    rw [if_neg (h a (by simp))]
    have h1 := mostGo_pos hp (m := max m (depthIn tab a)) (ls := ls) (by omega) fun b hb => h b (by simp [hb])
    refine ⟨by omega, fun b hb => ?_⟩
    rcases List.mem_cons.1 hb with rfl | hb
    · omega
    · exact h1.2 b hb
theorem mostGo_ne {tab : List Int} : ∀ {ls : List Ty} {m : Int}, mostGo tab m ls ≠ 0 → ∀ a ∈ ls, depthIn tab a ≠ 0
  | [], _, _, a, h => by cases h
  | a :: ls, m, h, b, hb => by
    simp only [mostGo] at h
    split at h
    · exact absurd rfl h
    · rename_i e
      rcases List.mem_cons.1 hb with rfl | hb
      · exact e
      · exact mostGo_ne h b hb
theorem mostGo_le {tab : List Int} {N : Int} : ∀ {ls : List Ty} {m : Int}, m ≤ N → (∀ a ∈ ls, depthIn tab a ≠ 0 ∧ depthIn tab a ≤ N) → mostGo tab m ls ≤ N + 1
  | [], m, h0, _ => by simp only [mostGo]; omega
  | a :: ls, m, h0, h => by
    simp only [mostGo]
    rw [if_neg (h a (by simp)).1]
    exact mostGo_le (by have := (h a (by simp)).2; omega) fun b hb => h b (by simp [hb])

/-- a table that is right so far: every entry that is not 0 is the depth of some value -/
structure Sound (xs : List Dt) (tab : List Int) : Prop where
  pos : ∀ s, 0 ≤ tab.getD s 0
  has : ∀ s, s < xs.length * 4 → tab.getD s 0 ≠ 0 → hasD xs (tab.getD s 0).toNat (tyAt s)
  len : tab.length = xs.length * 4
theorem Sound.dpos {xs : List Dt} {tab : List Int} (h : Sound xs tab) (a : Ty) : 0 ≤ depthIn tab a := by
  unfold depthIn; split
  · omega
  · exact h.pos _
theorem Sound.dhas {xs : List Dt} {tab : List Int} (h : Sound xs tab) {a : Ty} (ha : TyIn xs.length a) (hn : depthIn tab a ≠ 0) : hasD xs (depthIn tab a).toNat a := by
  unfold depthIn at hn ⊢
  split
  · rename_i e; exact .inl e
  · rename_i e
    rw [if_neg e] at hn
    obtain ⟨h1, h2⟩ := ha.slot e
    have := h.has _ h1 hn
    rwa [h2] at this
theorem getD_set (tab : List Int) (s r : Nat) (n : Int) (hs : s < tab.length) : (tab.set s n).getD r 0 = if r = s then n else tab.getD r 0 := by
  unfold List.getD
  by_cases h : r = s
  · subst h; rw [if_pos rfl, List.getElem?_set_self hs]; rfl
  · rw [if_neg h, List.getElem?_set_ne (fun e => h e.symm)]
theorem better_iff {tab : List Int} {s : Nat} {n : Int} : better tab s n = true ↔ 0 < n ∧ (tab.getD s 0 = 0 ∨ n < tab.getD s 0) := by
  unfold better; simp
theorem Sound.put {xs : List Dt} (hw : WorldOK xs) {tab : List Int} (h : Sound xs tab) {s : Nat} (hs : s < xs.length * 4) {k : Int} (hk : k ∈ ctorsL xs (tyAt s)) : Sound xs (putIf tab s (mostIn xs tab (tyAt s) k)) := by
  unfold putIf
  split
  · rename_i hb
    obtain ⟨h1, h2⟩ := better_iff.1 hb
    have hs' : s < tab.length := by rw [h.len]; exact hs
    refine ⟨fun r => ?_, fun r hr hne => ?_, by rw [List.length_set]; exact h.len⟩
    · rw [getD_set _ _ _ _ hs']; split
      · omega
      · exact h.pos r
    · rw [getD_set _ _ _ _ hs'] at hne ⊢
      split at hne
      · rename_i e
        subst e
        rw [if_pos rfl]
        have hne2 : mostGo tab 0 (argsOf xs (tyAt r) k) ≠ 0 := by unfold mostIn at h1; omega
        have hd := mostGo_ne hne2
        have hp := mostGo_pos h.dpos (m := 0) (by omega) hd
        obtain ⟨n, hn⟩ : ∃ n : Nat, (mostIn xs tab (tyAt r) k).toNat = n + 1 := ⟨(mostIn xs tab (tyAt r) k).toNat - 1, by omega⟩
        rw [hn]
        refine .inr ⟨k, hk, fun a ha => ?_⟩
        have hai := argsOf_in hw (tyAt_in hr) hk ha
        refine hasD_le (h.dhas hai (hd a ha)) ?_
        have := hp.2 a ha
        unfold mostIn at hn
        omega
      · rename_i e
        rw [if_neg e]
        exact h.has r hr hne
  · exact h
theorem Sound.slot {xs : List Dt} (hw : WorldOK xs) {s : Nat} (hs : s < xs.length * 4) : ∀ {ks : List Int} {tab : List Int}, (∀ k ∈ ks, k ∈ ctorsL xs (tyAt s)) → Sound xs tab → Sound xs (slotGo xs s tab ks)
  | [], tab, _, h => h
  | k :: ks, tab, hk, h => by
    rw [slotGo_cons]
    exact Sound.slot hw hs (fun x hx => hk x (by simp [hx])) (h.put hw hs (hk k (by simp)))
theorem Sound.to {xs : List Dt} (hw : WorldOK xs) {tab : List Int} (h : Sound xs tab) : ∀ {s : Nat}, s ≤ xs.length * 4 → Sound xs (sweepTo xs tab s)
  | 0, _ => h
  | s + 1, hs => by rw [sweepTo_succ]; exact Sound.slot hw (by omega) (fun k hk => hk) (Sound.to hw h (by omega))
theorem sound_sweeps {xs : List Dt} (hw : WorldOK xs) : ∀ n, Sound xs (sweeps xs n)
  | 0 => ⟨fun s => by simp only [sweeps, List.getD]; rcases Nat.lt_or_ge s (xs.length * 4) with h | h <;> simp [h], fun s hs hn => by simp [sweeps, List.getD, hs] at hn, by simp [sweeps]⟩
  | n + 1 => (sound_sweeps hw n).to hw (Nat.le_refl _)

/-! ### Entries become no worse -/
def Le (t t' : List Int) : Prop := ∀ s, t.getD s 0 ≠ 0 → t'.getD s 0 ≠ 0 ∧ t'.getD s 0 ≤ t.getD s 0
theorem Le.refl (t : List Int) : Le t t := fun s h => ⟨h, Int.le_refl _⟩
theorem Le.trans {a b c : List Int} (h : Le a b) (k : Le b c) : Le a c := fun s hs => ⟨(k s (h s hs).1).1, Int.le_trans (k s (h s hs).1).2 (h s hs).2⟩
theorem le_put (tab : List Int) (s : Nat) (hs : s < tab.length) (n : Int) : Le tab (putIf tab s n) := by
  unfold putIf
  split
  · rename_i hb
    obtain ⟨h1, h2⟩ := better_iff.1 hb
    intro r hr
    rw [getD_set _ _ _ _ hs]
    split
    · rename_i e; subst e; exact ⟨by omega, by omega⟩
    · exact ⟨hr, Int.le_refl _⟩
  · exact Le.refl _
theorem le_slot (xs : List Dt) (s : Nat) : ∀ (ks : List Int) (tab : List Int), s < tab.length → Le tab (slotGo xs s tab ks)
  | [], tab, _ => Le.refl _
  | k :: ks, tab, hs => by
    rw [slotGo_cons]
    exact (le_put tab s hs _).trans (le_slot xs s ks _ (by rw [putIf_length]; exact hs))
theorem le_to (xs : List Dt) (tab : List Int) : ∀ (s : Nat), s ≤ tab.length → Le tab (sweepTo xs tab s)
  | 0, _ => Le.refl _
  | s + 1, hs => by rw [sweepTo_succ]; exact (le_to xs tab s (by omega)).trans (le_slot xs s _ _ (by rw [sweepTo_length]; omega))
theorem le_step (xs : List Dt) (tab : List Int) (r : Nat) : ∀ (s : Nat), r ≤ s → s ≤ tab.length → Le (sweepTo xs tab r) (sweepTo xs tab s) := by
  intro s hr
  induction hr with
  | refl => intro _; exact Le.refl _
  | step hr ih => intro hs; rw [sweepTo_succ]; exact (ih (by omega)).trans (le_slot xs _ _ _ (by rw [sweepTo_length]; omega))

/-- every type with a value of depth n at most has an entry of n at most -/
def Done (xs : List Dt) (tab : List Int) (n : Nat) : Prop := ∀ s, s < xs.length * 4 → hasD xs n (tyAt s) → tab.getD s 0 ≠ 0 ∧ tab.getD s 0 ≤ n
theorem Done.le {xs : List Dt} {t t' : List Int} {n : Nat} (h : Done xs t n) (hl : Le t t') : Done xs t' n := fun s hs hh => ⟨(hl s (h s hs hh).1).1, Int.le_trans (hl s (h s hs hh).1).2 (h s hs hh).2⟩
theorem put_done {tab : List Int} {s : Nat} (hs : s < tab.length) (hp : 0 ≤ tab.getD s 0) {n : Int} (h0 : 0 < n) : (putIf tab s n).getD s 0 ≠ 0 ∧ (putIf tab s n).getD s 0 ≤ n := by
  unfold putIf
  split
  · rename_i hb
    rw [getD_set _ _ _ _ hs, if_pos rfl]; omega
  · rename_i hb
    have : ¬ (0 < n ∧ (tab.getD s 0 = 0 ∨ n < tab.getD s 0)) := fun h => hb (better_iff.2 h)
    omega
theorem slot_done {xs : List Dt} (hw : WorldOK xs) {n s : Nat} (hs : s < xs.length * 4) {k0 : Int} (ha : ∀ a ∈ argsOf xs (tyAt s) k0, hasD xs n a) : ∀ {ks : List Int} {tab : List Int}, (∀ k ∈ ks, k ∈ ctorsL xs (tyAt s)) → k0 ∈ ks → Sound xs tab → Done xs tab n → (slotGo xs s tab ks).getD s 0 ≠ 0 ∧ (slotGo xs s tab ks).getD s 0 ≤ n + 1
  | [], tab, _, h, _, _ => by cases h
  | k :: ks, tab, hks, hk, hsd, hd => by
    have hsl : s < tab.length := by rw [hsd.len]; exact hs
    rw [slotGo_cons]
    by_cases e : k0 = k
    · subst e
      have hk0 := hks k0 (by simp)
      have hall : ∀ a ∈ argsOf xs (tyAt s) k0, depthIn tab a ≠ 0 ∧ depthIn tab a ≤ n := fun a hm => by
        have hai := argsOf_in hw (tyAt_in hs) hk0 hm
        unfold depthIn
        split
        · have := ha a hm
          cases n with
          | zero => exact this.elim
          | succ n => omega
        · rename_i hne
          obtain ⟨q1, q2⟩ := hai.slot hne
          exact hd _ q1 (by rw [q2]; exact ha a hm)
      have h1 := mostGo_pos hsd.dpos (m := 0) (by omega) fun a hm => (hall a hm).1
      have h2 := mostGo_le (N := n) (m := 0) (by omega) hall
      have h3 := put_done hsl (hsd.pos s) (n := mostIn xs tab (tyAt s) k0) h1.1
      have h4 := le_slot xs s ks (putIf tab s (mostIn xs tab (tyAt s) k0)) (by rw [putIf_length]; exact hsl) s h3.1
      have h5 : mostIn xs tab (tyAt s) k0 ≤ n + 1 := h2
      exact ⟨h4.1, by omega⟩
    · have hk' : k0 ∈ ks := by
        rcases List.mem_cons.1 hk with h | h
        · exact absurd h e
        · exact h
      exact slot_done hw hs ha (fun x hx => hks x (by simp [hx])) hk' (hsd.put hw hs (hks k (by simp))) (hd.le (le_put tab s hsl _))
theorem sweep_done {xs : List Dt} (hw : WorldOK xs) {tab : List Int} {n : Nat} (hsd : Sound xs tab) (hd : Done xs tab n) : Done xs (sweep xs tab) (n + 1) := by
  intro s hs hh
  rcases hh with h | ⟨k, hk, ha⟩
  · exact absurd h (tyAt_not s)
  · have h1 := slot_done hw hs ha (fun k hk => hk) hk (hsd.to hw (by omega : s ≤ xs.length * 4)) (hd.le (le_to xs tab s (by rw [hsd.len]; omega)))
    rw [← sweepTo_succ] at h1
    have h2 := le_step xs tab (s + 1) (xs.length * 4) (by omega) (by rw [hsd.len]; omega) s h1.1
    exact ⟨h2.1, by show (sweepTo xs tab (xs.length * 4)).getD s 0 ≤ _; omega⟩
theorem done_sweeps {xs : List Dt} (hw : WorldOK xs) : ∀ n, Done xs (sweeps xs n) n
  | 0 => fun s _ h => h.elim
  | n + 1 => sweep_done hw (sound_sweeps hw n) (done_sweeps hw n)
theorem le_sweeps {xs : List Dt} (n : Nat) : Le (sweeps xs n) (sweeps xs (n + 1)) := le_to xs _ _ (by rw [sweeps_length]; exact Nat.le_refl _)
theorem le_sweeps' {xs : List Dt} {n m : Nat} (h : n ≤ m) : Le (sweeps xs n) (sweeps xs m) := by
  induction h with
  | refl => exact Le.refl _
  | step _ ih => exact ih.trans (le_sweeps _)
end Go.Proofs.YtlkkfbkghodncaaDoor

namespace Go.Proofs.YtlkkfbkghodncaaDoor
open Go.RowKit

theorem ArrV.drew' {w : World} {vs : List V} {x : Value} {F : List Nat} (h : Arr w (VR w) vs x F) : Arr w.drew (VR w.drew) vs x F := ArrV.mono (w := w) h (fun _ _ => rfl)
theorem ArrV.at {w0 w : World} {b off n cap : Nat} {F : List Nat} {xs : List V} (h : Arr w0 (VR w0) xs (.slice (some ⟨b, off, none⟩) n cap) F) (hF : Under w0.heap.size F) (hB : Below w0.heap.size w0 w) (i : Nat) (hi : i < xs.length) :
    ∃ A1 cap1 G, b < w.heap.size ∧ w.cell? ⟨b, off + i * 3, none⟩ = some (.int .i64 xs[i].c) ∧ w.cell? ⟨b, off + i * 3 + 1, none⟩ = some (.int .i64 xs[i].n) ∧ w.cell? ⟨b, off + i * 3 + 2, none⟩ = some (.slice A1 xs[i].ks.length cap1) ∧
      Hid (VR w0 xs[i] [.int .i64 xs[i].c, .int .i64 xs[i].n, .slice A1 xs[i].ks.length cap1] G) ∧ Hid (Under w0.heap.size G) ∧ (∀ b ∈ G, b ∈ F) ∧ xs[i].ks.length ≤ cap1 ∧ cap1 ≤ 9223372036854775807 := by
  obtain ⟨b', off', cs, G, e, hb, hcs, hv, hG⟩ := h.get VR_len hi
  cases e
  have hbl := hF _ hb
  have hc := hcs.same (hB.block _ hbl)
  obtain ⟨kv, rfl, ha⟩ := (VR_iff _ _ _).1 hv
  obtain ⟨A1, cap1, rfl, h1, h2⟩ := ha.form
  exact ⟨A1, cap1, G, Nat.lt_of_lt_of_le hbl hB.size, hc 0 _ rfl, hc 1 _ rfl, hc 2 _ rfl, hv, hF.sub hG, hG, h1, h2⟩
/-- the nodes of a value -/
def nodes (v : V) : Nat := 1 + v.size
theorem nodes_ks (v : V) : nodes v = 1 + V.sizes v.ks := by obtain ⟨c, n, ks⟩ := v; rfl
theorem sizes_step {l : List V} {i : Nat} (h : i < l.length) : V.sizes (l.take (i + 1)) = V.sizes (l.take i) + nodes l[i] := by
  rw [V.sizes_eq, V.sizes_eq, V.subs_take_succ l i h, List.length_take, List.length_take]
  unfold nodes
  omega
theorem sizes_take_le (l : List V) (i : Nat) : V.sizes (l.take i) ≤ V.sizes l := by
  rw [V.sizes_eq, V.sizes_eq, List.length_take]
  have := V.subs_take_le l i
  omega
def zipAll (f : Ty → V → Bool) : List Ty → List V → Bool
  | a :: ls, k :: ks => f a k && zipAll f ls ks
  | _, _ => true
theorem zipAll_step {f : Ty → V → Bool} {ls : List Ty} {ks : List V} {i : Nat} (h1 : i < ls.length) (h2 : i < ks.length) : zipAll f (ls.drop i) (ks.drop i) = (f ls[i] ks[i] && zipAll f (ls.drop (i + 1)) (ks.drop (i + 1))) := by
  rw [List.drop_eq_getElem_cons h1, List.drop_eq_getElem_cons h2, zipAll]
theorem zipAll_end {f : Ty → V → Bool} {ls : List Ty} {ks : List V} {i : Nat} (h1 : ls.length ≤ i) : zipAll f (ls.drop i) (ks.drop i) = true := by
  rw [List.drop_of_length_le h1]
  cases ks.drop i <;> rfl
def isNum (v : V) : Bool := (v.c == -1) && (withinB v.n 0 9 && decide (v.ks.length = 0))
/-- v is a value of type t, of depth d at most -/
def fitsV (xs : List Dt) : Nat → Ty → V → Bool
  | 0, _, _ => false
  | d + 1, t, v => if t.d = -1 then isNum v else (v.n == 0) && (hasB (ctorsL xs t) v.c && (decide (v.ks.length = (argsOf xs t v.c).length) && zipAll (fitsV xs d) (argsOf xs t v.c) v.ks))
theorem fitsV_int {xs : List Dt} {d : Nat} {t : Ty} {v : V} (h : t.d = -1) : fitsV xs (d + 1) t v = isNum v := by rw [fitsV, if_pos h]
theorem fitsV_data {xs : List Dt} {d : Nat} {t : Ty} {v : V} (h : ¬ t.d = -1) : fitsV xs (d + 1) t v = ((v.n == 0) && (hasB (ctorsL xs t) v.c && (decide (v.ks.length = (argsOf xs t v.c).length) && zipAll (fitsV xs d) (argsOf xs t v.c) v.ks))) := by rw [fitsV, if_neg h]
def valueOkB (xs : List Dt) (t : Ty) (v : V) : Bool := fitsV xs 10 t v && decide (nodes v ≤ 60)
def valueValidB (xs : List Dt) (t : Ty) (v : V) : Bool := typeValidB xs t && valueOkB xs t v

/-- contract of l2Fits at one value -/
def FitsS (v : V) : Prop := ∀ (xs : List Dt) (_ : WorldOK xs) (d : Nat) (_ : d ≤ 10) (t : Ty) (_ : TyIn xs.length t) (w : World) (x : Value) (F : List Nat) (cs : List Value) (G : List Nat), Arr w (DtR w) xs x F → Under w.heap.size F → VR w v cs G → Under w.heap.size G →
  Calls Tryd.prog 38 #[x, .agg #[.int .i64 t.d, .int .i64 t.i], .agg cs.toArray, .int .i64 (d : Int)] w fun e w' => e = .returned (.bool (fitsV xs d t v)) ∧ Below w.heap.size w w'
set_option maxRecDepth 100000 in
set_option maxHeartbeats 1600000 in
theorem l2Fits_of (v : V) (ih : ∀ k ∈ v.ks, FitsS k) : FitsS v := by
  intro xs hw d hd t ht w x F cs G hx hf hv hg
  obtain ⟨kv, rfl, ha⟩ := (VR_iff _ _ _).1 hv
  obtain ⟨A, cap, rfl, hc1, hc2⟩ := hx.form
  obtain ⟨A4, cap4, rfl, hc3, hc4⟩ := ha.form
  have HW := Lib.hid hw
  have IH := Lib.hid ih
  have HX := Lib.hid hx
  have HF := Lib.hid hf
  have HA := Lib.hid ha
  have HG := Lib.hid hg
  clear hx hf ha hg
  clear hw ih hv
  cases d with
  | zero =>
    go_enter Tryd.func38, Tryd.ntmps38
    go_wp2
    go_ret
    exact ⟨ret_bool rfl, ((Below.refl _ _).alloc (Nat.le_refl _) _).alloc (by simp) _⟩
  | succ d =>
  have hd1 : decide (((d + 1 : Nat) : Int) < 1) = false := by simp; omega
  have hde : ((d + 1 : Nat) : Int) = (d : Int) + 1 := by omega
  rw [hde] at hd1 ⊢
  clear hde
  rcases ht with ht | ⟨q, r, rfl, hql, hrl⟩
  · have t0 : (t.d == -1) = true := by simp [ht]
    have hB0 : Below w.heap.size w ((w.alloc (.cells #[.int .i64 t.d, .int .i64 t.i] 33)).alloc (.cells #[.int .i64 v.c, .int .i64 v.n, .slice A4 v.ks.length cap4] 37)) := ((Below.refl _ _).alloc (Nat.le_refl _) _).alloc (by simp) _
    have hfi := fitsV_int (xs := xs) (d := d) (v := v) ht
    unfold isNum at hfi
    cases q0 : (v.c == -1) with
    | false =>
      have hf : Hid (fitsV xs (d + 1) t v = false) := by rw [hfi, q0]; rfl
      clear hfi
      go_enter Tryd.func38, Tryd.ntmps38
      go_wp2
      go_ret
      exact ⟨ret_bool hf.out.symm, ((Below.refl _ _).alloc (Nat.le_refl _) _).alloc (by simp) _⟩
    | true =>
      cases q1 : withinB v.n 0 9 with
      | false =>
        have hf : Hid (fitsV xs (d + 1) t v = false) := by rw [hfi, q0, q1]; rfl
        clear hfi
        by_cases h0 : 0 ≤ v.n
        · have t1 : decide (v.n ≥ 0) = true := by simpa using h0
          have t2 : decide (v.n ≤ 9) = false := by
            have : ¬ (0 ≤ v.n ∧ v.n ≤ 9) := fun h => by rw [(withinB_iff _ _ _).2 h] at q1; cases q1
            simp; omega
          clear q1
          go_enter Tryd.func38, Tryd.ntmps38
          go_wp2
          go_ret
          exact ⟨ret_bool hf.out.symm, ((Below.refl _ _).alloc (Nat.le_refl _) _).alloc (by simp) _⟩
        · have t1 : decide (v.n ≥ 0) = false := by simpa using h0
          clear q1
          go_enter Tryd.func38, Tryd.ntmps38
          go_wp2
          go_ret
          exact ⟨ret_bool hf.out.symm, ((Below.refl _ _).alloc (Nat.le_refl _) _).alloc (by simp) _⟩
      | true =>
        by_cases q2 : v.ks.length = 0
        · have hf : Hid (fitsV xs (d + 1) t v = true) := by rw [hfi, q0, q1, decide_eq_true q2]; rfl
          have t3 : ((v.ks.length : Int) == 0) = true := by simp [q2]
          clear hfi
          have hq := (withinB_iff _ _ _).1 q1
          have t1 : decide (v.n ≥ 0) = true := by simp; omega
          have t2 : decide (v.n ≤ 9) = true := by simp; omega
          clear q1
          go_enter Tryd.func38, Tryd.ntmps38
          go_wp2
          go_ret
          exact ⟨ret_bool hf.out.symm, ((Below.refl _ _).alloc (Nat.le_refl _) _).alloc (by simp) _⟩
        · have hf : Hid (fitsV xs (d + 1) t v = false) := by rw [hfi, q0, q1, decide_eq_false q2]; rfl
          have t3 : ((v.ks.length : Int) == 0) = false := by simp; simpa using q2
          clear hfi
          have hq := (withinB_iff _ _ _).1 q1
          have t1 : decide (v.n ≥ 0) = true := by simp; omega
          have t2 : decide (v.n ≤ 9) = true := by simp; omega
          clear q1
          go_enter Tryd.func38, Tryd.ntmps38
          go_wp2
          go_ret
          exact ⟨ret_bool hf.out.symm, ((Below.refl _ _).alloc (Nat.le_refl _) _).alloc (by simp) _⟩
  · have t0 : ((q : Int) == -1) = false := by rw [beq_eq_false_iff_ne]; omega
    have hfd := fitsV_data (xs := xs) (d := d) (v := v) (t := ⟨(q : Int), (r : Int)⟩) (by show ¬ ((q : Int) = -1); omega)
    have HFD := Lib.hid hfd
    clear hfd
    go_enter Tryd.func38, Tryd.ntmps38
    go_wp2_with fail
    obtain ⟨W2, hW2⟩ : ∃ W2, W2 = ((w.alloc (.cells #[.int .i64 (q : Int), .int .i64 (r : Int)] 33)).alloc (.cells #[.int .i64 v.c, .int .i64 v.n, .slice A4 v.ks.length cap4] 37)) := ⟨_, rfl⟩
    have hB0 : Below w.heap.size w W2 := by rw [hW2]; exact ((Below.refl _ _).alloc (Nat.le_refl _) _).alloc (by simp) _
    have KT : Hid (Blk W2 w.heap.size 33 #[.int .i64 (q : Int), .int .i64 (r : Int)]) := by rw [hW2]; exact (Blk.new w _ _).same (Below.heap_alloc _ _ _ (by simp))
    have KV : Hid (Blk W2 (w.heap.size + 1) 37 #[.int .i64 v.c, .int .i64 v.n, .slice A4 v.ks.length cap4]) := by rw [hW2]; have h := Blk.new (w.alloc (.cells #[.int .i64 (q : Int), .int .i64 (r : Int)] 33)) 37 #[.int .i64 v.c, .int .i64 v.n, .slice A4 v.ks.length cap4]; rw [World.size_alloc] at h; exact h
    rw [← hW2]
    clear hW2
    have y0 : W2.cell? ⟨w.heap.size, 0, none⟩ = some (.int .i64 (q : Int)) := (KT.out.cell 0).trans (by simp)
    have y1 : W2.cell? ⟨w.heap.size, 1, none⟩ = some (.int .i64 (r : Int)) := (KT.out.cell 1).trans (by simp)
    have z0 : W2.cell? ⟨w.heap.size + 1, 0, none⟩ = some (.int .i64 v.c) := (KV.out.cell 0).trans (by simp)
    have z1 : W2.cell? ⟨w.heap.size + 1, 1, none⟩ = some (.int .i64 v.n) := (KV.out.cell 1).trans (by simp)
    have z2 : W2.cell? ⟨w.heap.size + 1, 2, none⟩ = some (.slice A4 v.ks.length cap4) := (KV.out.cell 2).trans (by simp)
    have klt := KT.out.lt
    have klt2 := KV.out.lt
    have HBQ := Lib.hid (fun n => below_drewN hB0 n)
    cases q0 : (v.n == 0) with
    | false =>
      have t1 : (v.n != 0) = true := by rw [bne, q0]; rfl
      have hf : Hid (fitsV xs (d + 1) ⟨(q : Int), (r : Int)⟩ v = false) := by rw [HFD.out, q0]; rfl
      clear q0
      go_quiet (fail)
      go_wp2
      go_ret
      exact ⟨ret_bool hf.out.symm, HBQ.out _⟩
    | true =>
      have t1 : (v.n != 0) = false := by rw [bne, q0]; rfl
      have h1 : fitsV xs (d + 1) ⟨(q : Int), (r : Int)⟩ v = (hasB (ctorsL xs ⟨(q : Int), (r : Int)⟩) v.c && (decide (v.ks.length = (argsOf xs ⟨(q : Int), (r : Int)⟩ v.c).length) && zipAll (fitsV xs d) (argsOf xs ⟨(q : Int), (r : Int)⟩ v.c) v.ks)) := by rw [HFD.out, q0, Bool.true_and]
      have H1 := Lib.hid h1
      have HIW : Hid (InWorld xs.length ⟨(q : Int), (r : Int)⟩) := .inr ⟨q, rfl, hql⟩
      clear h1 q0
      have hkeep : ∀ U U' : World, (U.cell? ⟨w.heap.size, 0, none⟩ = some (.int .i64 (q : Int)) ∧ U.cell? ⟨w.heap.size, 1, none⟩ = some (.int .i64 (r : Int)) ∧ U.cell? ⟨w.heap.size + 1, 0, none⟩ = some (.int .i64 v.c) ∧ U.cell? ⟨w.heap.size + 1, 1, none⟩ = some (.int .i64 v.n) ∧ U.cell? ⟨w.heap.size + 1, 2, none⟩ = some (.slice A4 v.ks.length cap4)) → Below U.heap.size U U' → W2.heap.size ≤ U.heap.size → (U'.cell? ⟨w.heap.size, 0, none⟩ = some (.int .i64 (q : Int)) ∧ U'.cell? ⟨w.heap.size, 1, none⟩ = some (.int .i64 (r : Int)) ∧ U'.cell? ⟨w.heap.size + 1, 0, none⟩ = some (.int .i64 v.c) ∧ U'.cell? ⟨w.heap.size + 1, 1, none⟩ = some (.int .i64 v.n) ∧ U'.cell? ⟨w.heap.size + 1, 2, none⟩ = some (.slice A4 v.ks.length cap4)) := fun U U' h hUU hU => ⟨(hUU.cell (Nat.lt_of_lt_of_le (klt) hU)).trans h.1, (hUU.cell (Nat.lt_of_lt_of_le (klt) hU)).trans h.2.1, (hUU.cell (Nat.lt_of_lt_of_le (klt2) hU)).trans h.2.2.1, (hUU.cell (Nat.lt_of_lt_of_le (klt2) hU)).trans h.2.2.2.1, (hUU.cell (Nat.lt_of_lt_of_le (klt2) hU)).trans h.2.2.2.2⟩
      have HKeep := Lib.hid hkeep
      clear hkeep
      go_region_held3 (fun w' => w'.cell? ⟨w.heap.size, 0, none⟩ = some (.int .i64 (q : Int)) ∧ w'.cell? ⟨w.heap.size, 1, none⟩ = some (.int .i64 (r : Int)) ∧ w'.cell? ⟨w.heap.size + 1, 0, none⟩ = some (.int .i64 v.c) ∧ w'.cell? ⟨w.heap.size + 1, 1, none⟩ = some (.int .i64 v.n) ∧ w'.cell? ⟨w.heap.size + 1, 2, none⟩ = some (.slice A4 v.ks.length cap4)) (first | assumption | (exact ⟨y0, y1, z0, z1, z2⟩) | (exact HKeep.out W2.drew w4 ⟨y0, y1, z0, z1, z2⟩ hb4 (Nat.le_refl _)) | (exact HKeep.out w4 w5 (by assumption) hb5 hlew4)) (first | (go_at_call 54; ((with_reducible refine (spec_l1Ctors xs ⟨(q : Int), (r : Int)⟩ _ _ F (ArrDt.below HX.out hB0.drew HF.out) (HF.out.mono hB0.drew.size) HW.out HIW.out).mono ?_); rintro e w4 ⟨v4, F4, rfl, hb4, ha4, -, hfs4⟩); have hlew4 : W2.heap.size ≤ w4.heap.size := hb4.size) | (go_at_call 53; ((with_reducible refine (spec_l1Has (ctorsL xs ⟨(q : Int), (r : Int)⟩) v.c _ _ F4 ha4 hfs4.under).mono ?_); rintro e w5 ⟨rfl, hb5⟩)))
      have hBa := hB0.drew.trans (hb4.mono hB0.drew.size)
      have hB5 := hBa.trans (hb5.mono hBa.size)
      have KT5 := Lib.hid ((KT.out.same (hb4.block _ KT.out.lt)).same (hb5.block _ (KT.out.same (hb4.block _ KT.out.lt)).lt))
      have KV5 := Lib.hid ((KV.out.same (hb4.block _ KV.out.lt)).same (hb5.block _ (KV.out.same (hb4.block _ KV.out.lt)).lt))
      clear HKeep KT KV y0 y1 z0 z1 z2 klt klt2 hBa hb4 hb5 ha4 hfs4 HBQ hB0 t1
      cases e1 : hasB (ctorsL xs ⟨(q : Int), (r : Int)⟩) v.c with
      | false =>
        have hf : Hid (fitsV xs (d + 1) ⟨(q : Int), (r : Int)⟩ v = false) := by rw [H1.out, e1]; rfl
        clear e1
        go_wp2
        go_ret
        exact ⟨ret_bool hf.out.symm, hB5⟩
      | true =>
        obtain ⟨q', k, e2, hvc, hq', hkl⟩ := mem_ctorsL (xs := xs) (t := ⟨(q : Int), (r : Int)⟩) (.inr ⟨q, rfl, hql⟩) ((hasB_iff _ _).1 e1)
        obtain rfl : q = q' := Int.ofNat.inj e2
        have h2 := H1.out
        rw [e1, Bool.true_and, hvc, argsOf_get hql hkl] at h2
        have H2 := Lib.hid h2
        clear h2 e1 e2
        have HAI := Lib.hid (fun a ha => argTy_in (HW.out.ctor hql hkl) (i := (r : Int)) (by omega) (by omega) (a := a) ha)
        have HLA := Lib.hid (HW.out.ctor hql hkl).args
        have y0 : w5.cell? ⟨w.heap.size, 0, none⟩ = some (.int .i64 (q : Int)) := (KT5.out.cell 0).trans (by simp)
        have y1 : w5.cell? ⟨w.heap.size, 1, none⟩ = some (.int .i64 (r : Int)) := (KT5.out.cell 1).trans (by simp)
        have z0 : w5.cell? ⟨w.heap.size + 1, 0, none⟩ = some (.int .i64 v.c) := (KV5.out.cell 0).trans (by simp)
        have klt := KT5.out.lt
        have klt2 := KV5.out.lt
        have HVC := Lib.hid hvc
        clear hvc
        go_wp2_with fail
        rw [HVC.out]
        refine (spec_l1Args xs q k (r : Int) hql hkl w5 _ F (ArrDt.below HX.out hB5 HF.out) (HF.out.mono hB5.size) HLA.out).mono ?_
        rintro e w6 ⟨v6, F6, rfl, hb6, ha6, -, hfs6⟩
        have hB6 := hB5.trans (hb6.mono hB5.size)
        have KV6 := Lib.hid (KV5.out.same (hb6.block _ KV5.out.lt))
        generalize hass : argsL xs[q].ctors[k] (r : Int) = ls at *
        clear hass
        obtain ⟨A6, cap6, rfl, hd3, hd4⟩ := ha6.form
        have HA6 := Lib.hid ha6
        have HU6 := Lib.hid hfs6.under
        clear ha6 hfs6 hb6 KT5 KV5 y0 y1 z0 klt klt2 hB5
        have z2 : w6.cell? ⟨w.heap.size + 1, 2, none⟩ = some (.slice A4 v.ks.length cap4) := (KV6.out.cell 2).trans (by simp)
        have klt2 := KV6.out.lt
        by_cases hln : v.ks.length = ls.length
        · have t2 : ((v.ks.length : Int) != (ls.length : Int)) = false := by simp [hln]
          have h3 : fitsV xs (d + 1) ⟨(q : Int), (r : Int)⟩ v = zipAll (fitsV xs d) ls v.ks := by rw [H2.out, decide_eq_true hln, Bool.true_and]
          have H3 := Lib.hid h3
          have HLN := Lib.hid hln
          clear h3 hln
          go_wp2
          clear z2 klt2 t2
          go_loopw [10] (fun iv wr => ∃ i : Nat, i ≤ ls.length ∧ iv = .int .i64 i ∧ Hid (fitsV xs (d + 1) ⟨(q : Int), (r : Int)⟩ v = zipAll (fitsV xs d) (ls.drop i) (v.ks.drop i)) ∧ Hid (Blk wr (w.heap.size + 1) 37 #[.int .i64 v.c, .int .i64 v.n, .slice A4 v.ks.length cap4]) ∧ Below w.heap.size w wr ∧ Hid (Below w6.heap.size w6 wr)) (fun iv _ => ls.length - (intOf iv).toNat)
          case atStart => exact ⟨0, Nat.zero_le _, rfl, H3, KV6, hB6, Below.refl _ _⟩
          case round =>
            clear hB6
            obtain ⟨i, hi, rfl, HR, KV, hB, HB6⟩ := hrel
            by_cases hil : i < ls.length
            · have hik : i < v.ks.length := by rw [HLN.out]; exact hil
              obtain ⟨b6, off6, rfl⟩ := HA6.out.ptr (by omega)
              obtain ⟨hb6, a0, a1⟩ := ArrTy.at HA6.out HU6.out HB6.out i hil
              obtain ⟨b4, off4, rfl⟩ := HA.out.ptr (by omega)
              obtain ⟨A7, cap7, G7, hb7, k0, k1, k2, HV7, HG7, -, -, -⟩ := ArrV.at HA.out HG.out hB i hik
              have z2 : wr.cell? ⟨w.heap.size + 1, 2, none⟩ = some (.slice (some ⟨b4, off4, none⟩) v.ks.length cap4) := (KV.out.cell 2).trans (by simp)
              have klt2 := KV.out.lt
              have g1 : (0 : Int) ≤ (i : Int) := by omega
              have g2 : (i : Int) < (ls.length : Int) := by omega
              have g3 : (i : Int) < (v.ks.length : Int) := by omega
              have hstep := HR.out
              rw [zipAll_step hil hik] at hstep
              have HST := Lib.hid hstep
              clear hstep
              have hwr : IntKind.i64.wrap (d : Int) = (d : Int) := IntWalk.i64_in _ (by omega)
              have HCALL := Lib.hid (IH.out v.ks[i] (List.getElem_mem hik) xs HW.out d (by omega) ls[i] (HAI.out _ (List.getElem_mem hil)) wr.drew _ F _ G7 (ArrDt.below HX.out hB.drew HF.out) (HF.out.mono hB.drew.size) (HV7.out.below hB.drew HG7.out) (HG7.out.mono hB.drew.size))
              go_wp2_with fail
              have hkeep : ∀ U U' : World, (U.cell? ⟨b6, off6 + i * 2, none⟩ = some (.int .i64 ls[i].d) ∧ U.cell? ⟨b6, off6 + i * 2 + 1, none⟩ = some (.int .i64 ls[i].i) ∧ U.cell? ⟨w.heap.size + 1, 2, none⟩ = some (.slice (some ⟨b4, off4, none⟩) v.ks.length cap4) ∧ U.cell? ⟨b4, off4 + i * 3, none⟩ = some (.int .i64 v.ks[i].c) ∧ U.cell? ⟨b4, off4 + i * 3 + 1, none⟩ = some (.int .i64 v.ks[i].n) ∧ U.cell? ⟨b4, off4 + i * 3 + 2, none⟩ = some (.slice A7 v.ks[i].ks.length cap7)) → Below U.heap.size U U' → wr.heap.size ≤ U.heap.size → (U'.cell? ⟨b6, off6 + i * 2, none⟩ = some (.int .i64 ls[i].d) ∧ U'.cell? ⟨b6, off6 + i * 2 + 1, none⟩ = some (.int .i64 ls[i].i) ∧ U'.cell? ⟨w.heap.size + 1, 2, none⟩ = some (.slice (some ⟨b4, off4, none⟩) v.ks.length cap4) ∧ U'.cell? ⟨b4, off4 + i * 3, none⟩ = some (.int .i64 v.ks[i].c) ∧ U'.cell? ⟨b4, off4 + i * 3 + 1, none⟩ = some (.int .i64 v.ks[i].n) ∧ U'.cell? ⟨b4, off4 + i * 3 + 2, none⟩ = some (.slice A7 v.ks[i].ks.length cap7)) := fun U U' h hUU hU => ⟨(hUU.cell (Nat.lt_of_lt_of_le (hb6) hU)).trans h.1, (hUU.cell (Nat.lt_of_lt_of_le (hb6) hU)).trans h.2.1, (hUU.cell (Nat.lt_of_lt_of_le (klt2) hU)).trans h.2.2.1, (hUU.cell (Nat.lt_of_lt_of_le (hb7) hU)).trans h.2.2.2.1, (hUU.cell (Nat.lt_of_lt_of_le (hb7) hU)).trans h.2.2.2.2.1, (hUU.cell (Nat.lt_of_lt_of_le (hb7) hU)).trans h.2.2.2.2.2⟩
              have HKeep := Lib.hid hkeep
              clear hkeep
              go_region_held3 (fun w' => w'.cell? ⟨b6, off6 + i * 2, none⟩ = some (.int .i64 ls[i].d) ∧ w'.cell? ⟨b6, off6 + i * 2 + 1, none⟩ = some (.int .i64 ls[i].i) ∧ w'.cell? ⟨w.heap.size + 1, 2, none⟩ = some (.slice (some ⟨b4, off4, none⟩) v.ks.length cap4) ∧ w'.cell? ⟨b4, off4 + i * 3, none⟩ = some (.int .i64 v.ks[i].c) ∧ w'.cell? ⟨b4, off4 + i * 3 + 1, none⟩ = some (.int .i64 v.ks[i].n) ∧ w'.cell? ⟨b4, off4 + i * 3 + 2, none⟩ = some (.slice A7 v.ks[i].ks.length cap7)) (first | assumption | (exact ⟨a0, a1, z2, k0, k1, k2⟩) | (exact HKeep.out wr.drew w' ⟨a0, a1, z2, k0, k1, k2⟩ hB' (Nat.le_refl _))) (first | (go_at_call 38; ((with_reducible refine HCALL.out.mono ?_); rintro e w' ⟨rfl, hB'⟩)))
              have hB3 := hB.drew.trans (hB'.mono hB.size)
              have HB3 := Lib.hid (HB6.out.drew.trans (hB'.mono HB6.out.size))
              have KV3 := Lib.hid (KV.out.same (hB'.block _ KV.out.lt))
              clear HKeep hwr
              cases e3 : fitsV xs d ls[i] v.ks[i] with
              | false =>
                have hf : Hid (fitsV xs (d + 1) ⟨(q : Int), (r : Int)⟩ v = false) := by rw [HST.out, e3]; rfl
                clear e3
                go_wp2
                go_ret
                exact ⟨ret_bool hf.out.symm, hB3⟩
              | true =>
                have hR2 : Hid (fitsV xs (d + 1) ⟨(q : Int), (r : Int)⟩ v = zipAll (fitsV xs d) (ls.drop (i + 1)) (v.ks.drop (i + 1))) := by rw [HST.out, e3, Bool.true_and]; rfl
                clear e3
                go_wp2
                go_roundw
                case rel => exact ⟨i + 1, by omega, by go_num, hR2, KV3, hB3, HB3⟩
                case measure => (simp [intOf] <;> omega)
            · have hf : Hid (fitsV xs (d + 1) ⟨(q : Int), (r : Int)⟩ v = true) := by rw [HR.out]; exact zipAll_end (by omega)
              go_wp2
              go_ret
              exact ⟨ret_bool hf.out.symm, hB⟩
        · have t2 : ((v.ks.length : Int) != (ls.length : Int)) = true := by rw [bne_iff_ne]; omega
          have hf : Hid (fitsV xs (d + 1) ⟨(q : Int), (r : Int)⟩ v = false) := by rw [H2.out, decide_eq_false hln]; rfl
          clear hln
          go_wp2
          go_ret
          exact ⟨ret_bool hf.out.symm, hB6⟩
theorem V.indv {p : V → Prop} (h : ∀ v : V, (∀ k ∈ v.ks, p k) → p v) : ∀ v, p v := V.ind fun c n ks ih => h ⟨c, n, ks⟩ ih
theorem spec_l2Fits : ∀ v, FitsS v := V.indv l2Fits_of
end Go.Proofs.YtlkkfbkghodncaaDoor

namespace Go.Proofs.YtlkkfbkghodncaaDoor
open Go.RowKit

/-- a count of nodes that stops beyond a number -/
structure Upto (v : V) (most : Int) (c : Int) : Prop where
  lo : 1 ≤ c
  hi : c ≤ nodes v
  yes : (nodes v : Int) ≤ most → c = nodes v
  no : most < nodes v → most < c
def CountPost (v : V) (most : Int) (w : World) (e : Ending) (w' : World) : Prop := ∃ c : Int, e = .returned (.int .i64 c) ∧ Upto v most c ∧ Below w.heap.size w w'
/-- contract of l2Count at one value -/
def CountS (v : V) : Prop := ∀ (most : Int) (_ : 0 ≤ most) (_ : most ≤ 1000) (w : World) (cs : List Value) (G : List Nat), VR w v cs G → Under w.heap.size G → nodes v ≤ 2000000 →
  Calls Tryd.prog 39 #[.agg cs.toArray, .int .i64 most] w (CountPost v most w)

set_option maxRecDepth 100000 in
set_option maxHeartbeats 1600000 in
theorem l2Count_of (v : V) (ih : ∀ k ∈ v.ks, CountS k) : CountS v := by
  intro most hm0 hm1 w cs G hv hg hz
  obtain ⟨kv, rfl, ha⟩ := (VR_iff _ _ _).1 hv
  obtain ⟨A4, cap4, rfl, hc3, hc4⟩ := ha.form
  have IH := Lib.hid ih
  have HZ := Lib.hid hz
  have HA := Lib.hid ha
  have HG := Lib.hid hg
  clear ha hg
  clear ih hv hz
  have hkl : v.ks.length ≤ 2000000 := by have := HZ.out; rw [nodes_ks, V.sizes_eq] at this; omega
  go_enter Tryd.func39, Tryd.ntmps39
  go_wp2
  have hB0 : Below w.heap.size w (w.alloc (.cells #[.int .i64 v.c, .int .i64 v.n, .slice A4 v.ks.length cap4] 37)) := (Below.refl _ _).alloc (Nat.le_refl _) _
  have K0 : Hid (Blk (w.alloc (.cells #[.int .i64 v.c, .int .i64 v.n, .slice A4 v.ks.length cap4] 37)) w.heap.size 37 #[.int .i64 v.c, .int .i64 v.n, .slice A4 v.ks.length cap4]) := Blk.new _ _ _
  go_loopw [5, 6] (fun nv iv wr => ∃ i : Nat, ∃ n : Int, i ≤ v.ks.length ∧ iv = .int .i64 i ∧ nv = .int .i64 n ∧ 1 ≤ n ∧ n ≤ 2000000 ∧ Hid (n ≤ 1 + (V.sizes (v.ks.take i) : Nat) ∧ (1 + ((V.sizes (v.ks.take i) : Nat) : Int) ≤ most → n = 1 + (V.sizes (v.ks.take i) : Nat)) ∧ (most < 1 + ((V.sizes (v.ks.take i) : Nat) : Int) → most < n)) ∧ Hid (Blk wr w.heap.size 37 #[.int .i64 v.c, .int .i64 v.n, .slice A4 v.ks.length cap4]) ∧ Below w.heap.size w wr) (fun _ iv _ => v.ks.length - (intOf iv).toNat)
  case atStart => exact ⟨0, 1, Nat.zero_le _, rfl, rfl, by omega, by omega, ⟨by simp [V.sizes], fun _ => by simp [V.sizes], fun h => by simpa [V.sizes] using h⟩, K0, hB0⟩
  case round =>
    clear hB0 K0
    obtain ⟨i, n, hi, rfl, rfl, hn1, hn2, HN, KV, hB⟩ := hrel
    have z2 : wr.cell? ⟨w.heap.size, 2, none⟩ = some (.slice A4 v.ks.length cap4) := (KV.out.cell 2).trans (by simp)
    have klt := KV.out.lt
    have hend : (¬ (i < v.ks.length ∧ n ≤ most)) → CountPost v most w (.returned (.int .i64 n)) wr := fun h => by
      have h1 := HN.out
      have h2 := sizes_take_le v.ks i
      have h3 := nodes_ks v
      refine ⟨n, rfl, ⟨hn1, by omega, fun hy => ?_, fun hno => ?_⟩, hB⟩
      · by_cases hil : i < v.ks.length
        · have : ¬ n ≤ most := fun hnm => h ⟨hil, hnm⟩
          have := h1.2.1 (by omega)
          omega
        · rw [List.take_of_length_le (by omega)] at h1
          have := h1.2.1 (by omega)
          omega
      · by_cases hil : i < v.ks.length
        · have : ¬ n ≤ most := fun hnm => h ⟨hil, hnm⟩
          omega
        · rw [List.take_of_length_le (by omega)] at h1
          exact h1.2.2 (by omega)
    have HEnd := Lib.hid hend
    clear hend
    by_cases hil : i < v.ks.length
    · have t1 : decide ((i : Int) < (v.ks.length : Int)) = true := by simp; omega
      by_cases hnm : n ≤ most
      · have t2 : decide (n ≤ most) = true := by simpa using hnm
        obtain ⟨b4, off4, rfl⟩ := HA.out.ptr (by omega)
        obtain ⟨A7, cap7, G7, hb7, k0, k1, k2, HV7, HG7, -, -, -⟩ := ArrV.at HA.out HG.out hB i hil
        have g1 : (0 : Int) ≤ (i : Int) := by omega
        have g2 : (i : Int) < (v.ks.length : Int) := by omega
        have hst := sizes_step hil
        have hsl := sizes_take_le v.ks (i + 1)
        have hnk := nodes_ks v
        have hz := HZ.out
        have hkz : nodes v.ks[i] ≤ 2000000 := by omega
        have HKZ := Lib.hid hkz
        have HST := Lib.hid (And.intro hst (And.intro hsl hnk))
        clear hst hsl hnk hz hkz
        go_wp2_with fail
        refine (IH.out v.ks[i] (List.getElem_mem hil) (most - n) (by omega) (by omega) wr _ G7 (HV7.out.below hB HG7.out) (HG7.out.mono hB.size) HKZ.out).mono ?_
        rintro e w' ⟨c, rfl, hu, hB'⟩
        have hB3 := hB.trans (hB'.mono hB.size)
        have KV3 := Lib.hid (KV.out.same (hB'.block _ KV.out.lt))
        have hc1 := hu.lo
        have hN2 : Hid (n + c ≤ 1 + (V.sizes (v.ks.take (i + 1)) : Nat) ∧ (1 + ((V.sizes (v.ks.take (i + 1)) : Nat) : Int) ≤ most → n + c = 1 + (V.sizes (v.ks.take (i + 1)) : Nat)) ∧ (most < 1 + ((V.sizes (v.ks.take (i + 1)) : Nat) : Int) → most < n + c)) := by
          have h1 := HN.out
          obtain ⟨h2, h3, h4⟩ := HST.out
          have h5 := hu.hi
          have h6 := hu.yes
          have h7 := hu.no
          have h8 : n = 1 + ((V.sizes (v.ks.take i) : Nat) : Int) := by
            rcases Int.lt_or_le most (1 + ((V.sizes (v.ks.take i) : Nat) : Int)) with h | h
            · have := h1.2.2 h; omega
            · exact h1.2.1 h
          refine ⟨by omega, fun hy => ?_, fun hno => ?_⟩
          · have := h6 (by omega); omega
          · have := h7 (by omega); omega
        have hn3 : n + c ≤ 2000000 := by
          have h1 := hN2.out.1
          obtain ⟨h2, h3, h4⟩ := HST.out
          have := HZ.out
          omega
        clear hu t1 t2 z2 klt k0 k1 k2 hB'
        go_wp2
        go_roundw
        case rel => exact ⟨i + 1, n + c, by omega, by go_num, rfl, by omega, hn3, hN2, KV3, hB3⟩
        case measure => (simp [intOf] <;> omega)
      · have t2 : decide (n ≤ most) = false := by simpa using hnm
        have HFin := Lib.hid (HEnd.out (fun h => hnm h.2))
        go_wp2
        go_ret
        exact HFin.out
    · have t1 : decide ((i : Int) < (v.ks.length : Int)) = false := by simp; omega
      have HFin := Lib.hid (HEnd.out (fun h => hil h.1))
      go_wp2
      go_ret
      exact HFin.out
theorem spec_l2Count : ∀ v, CountS v := V.indv l2Count_of
end Go.Proofs.YtlkkfbkghodncaaDoor

namespace Go.Proofs.YtlkkfbkghodncaaDoor
open Go.RowKit

theorem CellsAt.nil (w : World) (b off : Nat) : CellsAt w b off [] := fun j u h => by simp at h
theorem CellsAt.cons {w : World} {b off : Nat} {a : Value} {cs : List Value} (h : w.cell? ⟨b, off, none⟩ = some a) (hc : CellsAt w b (off + 1) cs) : CellsAt w b off (a :: cs) := fun j u hj => by
  cases j with
  | zero => simp at hj; subst hj; exact h
  | succ j =>
    have := hc j u (by simpa using hj)
    rwa [show off + 1 + j = off + (j + 1) by omega] at this
theorem Kept.refl (F : List Nat) (w : World) : Kept F w w := fun _ _ => rfl
theorem Kept.set {F : List Nat} {w w' : World} {b j : Nat} {u : Value} (h : Kept F w w') (hb : b ∉ F) : Kept F w (w'.setCell ⟨b, j, none⟩ u) := fun c hc =>
  (Below.heap_setCell _ _ _ _ (fun e => hb (by rw [← show c = b from e]; exact hc))).trans (h c hc)
theorem Kept.step {F : List Nat} {w w' w'' : World} (h : Kept F w w') (hb : Below w'.heap.size w' w'') (hF : Under w'.heap.size F) : Kept F w w'' := fun c hc => (hb.block c (hF c hc)).trans (h c hc)

/-- w' differs from w in the blocks of F alone -/
structure Chg (F : List Nat) (w w' : World) : Prop where
  os : w'.os = w.os
  tape : w'.tape = w.tape
  output : w'.output = w.output
  size : w.heap.size ≤ w'.heap.size
  block : ∀ b, b < w.heap.size → b ∉ F → w'.heap[b]? = w.heap[b]?
theorem Chg.refl (F : List Nat) (w : World) : Chg F w w := ⟨rfl, rfl, rfl, Nat.le_refl _, fun _ _ _ => rfl⟩
theorem Chg.trans {F : List Nat} {a b c : World} (h : Chg F a b) (k : Chg F b c) : Chg F a c :=
  ⟨k.os.trans h.os, k.tape.trans h.tape, k.output.trans h.output, Nat.le_trans h.size k.size, fun i hi hF => (k.block i (Nat.lt_of_lt_of_le hi h.size) hF).trans (h.block i hi hF)⟩
theorem Chg.mono {F G : List Nat} {w w' : World} (h : Chg F w w') (hs : ∀ b ∈ F, b ∈ G) : Chg G w w' := ⟨h.os, h.tape, h.output, h.size, fun b hb hG => h.block b hb fun hf => hG (hs b hf)⟩
theorem Chg.of_below {F : List Nat} {w w' : World} (h : Below w.heap.size w w') : Chg F w w' := ⟨h.os, h.tape, h.output, h.size, fun b hb _ => h.block b hb⟩
theorem Chg.kept {F G : List Nat} {w w' : World} (h : Chg F w w') (hG : Under w.heap.size G) (hd : ∀ b ∈ G, b ∉ F) : Kept G w w' := fun b hb => h.block b (hG b hb) (hd b hb)
theorem Chg.below {F : List Nat} {w w' : World} {B : Nat} (h : Chg F w w') (hF : ∀ b ∈ F, B ≤ b) (hB : B ≤ w.heap.size) : Below B w w' :=
  ⟨h.os, h.tape, h.output, h.size, fun b hb => h.block b (Nat.lt_of_lt_of_le hb hB) fun hf => Nat.lt_irrefl _ (Nat.lt_of_lt_of_le hb (hF b hf))⟩

theorem Chg.set {F : List Nat} {w w' : World} {b j : Nat} {u : Value} (h : Chg F w w') (hb : b ∈ F) : Chg F w (w'.setCell ⟨b, j, none⟩ u) :=
  ⟨h.os, h.tape, h.output, Nat.le_trans h.size (by simp [World.setCell]), fun c hc hF => (Below.heap_setCell _ _ _ _ (fun e => hF (by rw [show c = b from e]; exact hb))).trans (h.block c hc hF)⟩
theorem Chg.step {F : List Nat} {w w' w'' : World} (h : Chg F w w') (hb : Below w'.heap.size w' w'') : Chg F w w'' := h.trans (.of_below hb)
theorem Chg.drew {F : List Nat} {w w' : World} (h : Chg F w w') : Chg F w w'.drew := ⟨h.os, h.tape, h.output, h.size, h.block⟩
theorem Chg.drewN {F : List Nat} {w w' : World} (h : Chg F w w') (n : Nat) : Chg F w (w'.drewN n) := ⟨h.os, h.tape, h.output, h.size, h.block⟩
theorem Chg.cell {F : List Nat} {w w' : World} (h : Chg F w w') {p : Addr} (hp : p.block < w.heap.size) (hn : p.block ∉ F) : w'.cell? p = w.cell? p := World.cell?_of_block (w := w) (h.block p.block hp hn)
theorem Chg.undrew {F : List Nat} {w w' : World} (h : Chg F w.drew w') : Chg F w w' := ⟨h.os, h.tape, h.output, h.size, h.block⟩

/-- beside the blocks of F, cells lo .. lo + n - 1 of block b may have changed -/
structure Upd (b lo n : Nat) (F : List Nat) (w w' : World) : Prop extends Chg (b :: F) w w' where
  cells : ∀ j, j < lo ∨ lo + n ≤ j → w'.cell? ⟨b, j, none⟩ = w.cell? ⟨b, j, none⟩
  froz : ∀ j, w'.frozen? ⟨b, j, none⟩ = w.frozen? ⟨b, j, none⟩
theorem Upd.refl (b lo n : Nat) (F : List Nat) (w : World) : Upd b lo n F w w := ⟨Chg.refl _ _, fun _ _ => rfl, fun _ => rfl⟩
theorem Upd.trans {b lo n : Nat} {F : List Nat} {x y z : World} (h : Upd b lo n F x y) (k : Upd b lo n F y z) : Upd b lo n F x z :=
  ⟨h.toChg.trans k.toChg, fun j hj => (k.cells j hj).trans (h.cells j hj), fun j => (k.froz j).trans (h.froz j)⟩
theorem Upd.set {b lo n : Nat} {F : List Nat} {x y : World} (h : Upd b lo n F x y) {j : Nat} (h1 : lo ≤ j) (h2 : j < lo + n) (u : Value) : Upd b lo n F x (y.setCell ⟨b, j, none⟩ u) :=
  h.trans ⟨⟨rfl, rfl, rfl, by simp [World.setCell], fun c _ hc => Below.heap_setCell _ _ _ _ (fun e => hc (by rw [e]; exact List.mem_cons_self))⟩,
    fun i hi => World.cell?_setCell_other _ _ _ _ (by intro e; injection e; omega), fun i => World.frozen?_setCell _ _ _ _⟩
theorem Upd.sub {b lo n : Nat} {F : List Nat} {x y z : World} (h : Upd b lo n F x y) (hc : Chg F y z) (hb : b ∉ F) (hlt : b < y.heap.size) : Upd b lo n F x z :=
  h.trans ⟨hc.mono fun c hc => List.mem_cons_of_mem _ hc, fun j _ => World.cell?_of_block (w := y) (a := ⟨b, j, none⟩) (hc.block b hlt hb), fun j => World.frozen?_of_block (w := y) (a := ⟨b, j, none⟩) (hc.block b hlt hb)⟩
theorem Upd.below {b lo n : Nat} {F : List Nat} {x y z : World} (h : Upd b lo n F x y) (hc : Below y.heap.size y z) (hlt : b < y.heap.size) : Upd b lo n F x z :=
  h.trans ⟨.of_below hc, fun j _ => hc.cell (p := ⟨b, j, none⟩) hlt, fun j => hc.frozen (p := ⟨b, j, none⟩) hlt⟩

theorem Flat.len_eq {α : Type} {R : α → List Value → List Nat → Prop} {k : Nat} (hk : ∀ x cs F, R x cs F → cs.length = k) {xs : List α} {c : List Value} {F : List Nat} (h : Flat R xs c F) : c.length = xs.length * k := h.length hk

section
variable {α : Type} {R : World → α → List Value → List Nat → Prop} {k : Nat}

/-- one element in view: what may be done to it -/
theorem Arr.focus (hRl : ∀ w x cs G, R w x cs G → cs.length = k) (hRm : ∀ w w' x cs G, Kept G w w' → R w x cs G → R w' x cs G) {w : World} {xs : List α} {v : Value} {F : List Nat}
    (h : Arr w (R w) xs v F) (hfr : Free w F) (hF : Under w.heap.size F) {i : Nat} (hi : i < xs.length) :
    ∃ b off c F1 F2 F3 cap, v = .slice (some ⟨b, off, none⟩) xs.length cap ∧ F = b :: (F1 ++ (F2 ++ F3)) ∧ CellsAt w b (off + i * k) c ∧ R w xs[i] c F2 ∧ Free w F2 ∧ b ∉ F2 ∧ b < w.heap.size ∧ (∀ j, w.frozen? ⟨b, j, none⟩ = false) ∧ Under w.heap.size F2 ∧
      ∀ w' y c', Upd b (off + i * k) k F2 w w' → CellsAt w' b (off + i * k) c' → R w' y c' F2 → Free w' F2 → Arr w' (R w') (xs.set i y) v F ∧ Free w' F ∧ Chg F w w' := by
  obtain ⟨A, cap, rfl, h1, h2, h3⟩ := h
  rcases h3 with ⟨rfl, -⟩ | ⟨b, off, cs, G, rfl, hc, hf, rfl⟩
  · simp at hi
  have hxs : xs = xs.take i ++ (xs[i] :: xs.drop (i + 1)) := by rw [← List.drop_eq_getElem_cons hi, List.take_append_drop]
  have hf' := hf
  rw [hxs] at hf'
  obtain ⟨c1, c23, F1, F23, rfl, rfl, g1, g23⟩ := Flat.split (xs.take i) hf'
  obtain ⟨c2, c3, F2, F3, rfl, rfl, g2, g3⟩ := g23
  have l1 : c1.length = i * k := by rw [g1.length (hRl w), List.length_take]; congr 1; omega
  have hc2 := hc.right
  rw [l1] at hc2
  have l2 := hRl _ _ _ _ g2
  have nd := List.nodup_cons.1 hfr.1
  have nd1 := List.nodup_append.1 nd.2
  have nd2 := List.nodup_append.1 nd1.2.1
  have hbF2 : b ∉ F2 := fun hb => nd.1 (List.mem_append.2 (.inr (List.mem_append.2 (.inl hb))))
  refine ⟨b, off, c2, F1, F2, F3, cap, rfl, rfl, hc2.left, g2, ⟨nd2.1, fun x hx j => hfr.2 x (by simp [hx]) j⟩, hbF2, hF b (by simp), fun j => hfr.2 b (by simp) j, fun x hx => hF x (by simp [hx]), ?_⟩
  intro w' y c' hu hc' hy hfr2
  have k1 : Kept F1 w w' := hu.toChg.kept (fun x hx => hF x (by simp [hx])) fun x hx hm => by
    rcases List.mem_cons.1 hm with rfl | hm
    · exact nd.1 (by simp [hx])
    · exact nd1.2.2 x hx x (by simp [hm]) rfl
  have k3 : Kept F3 w w' := hu.toChg.kept (fun x hx => hF x (by simp [hx])) fun x hx hm => by
    rcases List.mem_cons.1 hm with rfl | hm
    · exact nd.1 (by simp [hx])
    · exact nd2.2.2 x hm x hx rfl
  have lc' := hRl _ _ _ _ hy
  have hxs' : xs.set i y = xs.take i ++ (y :: xs.drop (i + 1)) := by rw [List.set_eq_take_append_cons_drop, if_pos hi]
  refine ⟨?_, ?_, ?_⟩
  · rw [hxs']
    refine ⟨_, cap, by rw [← hxs', List.length_set], by rw [← hxs', List.length_set]; exact h1, h2, .inr ⟨b, off, c1 ++ (c' ++ c3), F1 ++ (F2 ++ F3), rfl, ?_, ?_, rfl⟩⟩
    · refine CellsAt.append (fun j u hj => ?_) (CellsAt.append ?_ (fun j u hj => ?_))
      · have hjl := (List.getElem?_eq_some_iff.1 hj).1
        rw [hu.cells _ (.inl (by omega))]
        exact hc.left j u hj
      · rw [l1]; exact hc'
      · rw [l1, hu.cells _ (.inr (by omega))]
        have := hc2.right j u hj
        rw [l2] at this
        rwa [lc']
    · exact (g1.mono fun x _ cs H hH hr => hRm _ _ x cs H (fun z hz => k1 z (hH z hz)) hr).append ⟨c', c3, F2, F3, rfl, rfl, hy, g3.mono fun x _ cs H hH hr => hRm _ _ x cs H (fun z hz => k3 z (hH z hz)) hr⟩
  · refine ⟨hfr.1, fun x hx j => ?_⟩
    rcases List.mem_cons.1 hx with rfl | hx
    · rw [hu.froz j]; exact hfr.2 x (by simp) j
    · rcases List.mem_append.1 hx with hx | hx
      · rw [World.frozen?_of_block (w := w) (a := ⟨x, j, none⟩) (k1 x hx)]; exact hfr.2 x (by simp [hx]) j
      · rcases List.mem_append.1 hx with hx | hx
        · exact hfr2.2 x hx j
        · rw [World.frozen?_of_block (w := w) (a := ⟨x, j, none⟩) (k3 x hx)]; exact hfr.2 x (by simp [hx]) j
  · exact hu.toChg.mono fun x hx => by
      rcases List.mem_cons.1 hx with rfl | hx <;> simp [*]
end

/-! ### What marking makes of a list -/
def mkS {α : Type} (mk : Int → α → α) (cnt : α → Nat) : Int → List α → List α
  | _, [] => []
  | k, x :: xs => mk k x :: mkS mk cnt (k + cnt x) xs
section
variable {α : Type} {mk : Int → α → α} {cnt : α → Nat}
theorem mkS_length : ∀ (xs : List α) (k : Int), (mkS mk cnt k xs).length = xs.length
  | [], _ => rfl
  | x :: xs, k => by rw [mkS, List.length_cons, mkS_length xs, List.length_cons]
theorem mkS_snoc : ∀ (xs : List α) (k : Int) (x : α), mkS mk cnt k (xs ++ [x]) = mkS mk cnt k xs ++ [mk (k + sumBy cnt xs) x]
  | [], k, x => by simp [mkS, sumBy]
  | y :: xs, k, x => by
    simp only [List.cons_append, mkS, mkS_snoc xs, sumBy]
    congr 4; omega
theorem mkS_get {xs : List α} {k : Int} {i : Nat} (hi : i < xs.length) : (mkS mk cnt k xs)[i]? = some (mk (k + sumBy cnt (xs.take i)) xs[i]) := by
  have h : ∀ (xs : List α) (k : Int) (i : Nat) (hi : i < xs.length), (mkS mk cnt k xs)[i]? = some (mk (k + sumBy cnt (xs.take i)) xs[i]) := by
    intro xs
    induction xs with
    | nil => intro k i hi; simp at hi
    | cons x xs ih =>
      intro k i hi
      cases i with
      | zero => simp [mkS, sumBy]
      | succ i =>
        simp only [mkS, List.getElem?_cons_succ, List.take_succ_cons, sumBy, List.getElem_cons_succ]
        rw [ih (k + cnt x) i (by simpa using hi)]
        congr 2; omega
  exact h xs k i hi
/-- the first i elements are marked already -/
def mkTo (mk : Int → α → α) (cnt : α → Nat) (k : Int) (xs : List α) (i : Nat) : List α := mkS mk cnt k (xs.take i) ++ xs.drop i
theorem mkTo_length (k : Int) (xs : List α) (i : Nat) : (mkTo mk cnt k xs i).length = xs.length := by unfold mkTo; rw [List.length_append, mkS_length, ← List.length_append, List.take_append_drop]
theorem mkTo_zero (k : Int) (xs : List α) : mkTo mk cnt k xs 0 = xs := rfl
theorem mkTo_all (k : Int) (xs : List α) {i : Nat} (h : xs.length ≤ i) : mkTo mk cnt k xs i = mkS mk cnt k xs := by unfold mkTo; rw [List.take_of_length_le h, List.drop_of_length_le h, List.append_nil]
theorem mkTo_get {k : Int} {xs : List α} {i : Nat} (hi : i < xs.length) : (mkTo mk cnt k xs i)[i]'(by rw [mkTo_length]; exact hi) = xs[i] := by
  unfold mkTo
  rw [List.getElem_append_right (by rw [mkS_length, List.length_take]; omega)]
  simp only [mkS_length, List.length_take, Nat.min_eq_left (Nat.le_of_lt hi), Nat.sub_self, List.getElem_drop, Nat.add_zero]
theorem mkTo_step {k : Int} {xs : List α} {i : Nat} (hi : i < xs.length) : (mkTo mk cnt k xs i).set i (mk (k + sumBy cnt (xs.take i)) xs[i]) = mkTo mk cnt k xs (i + 1) := by
  unfold mkTo
  rw [take_snoc' xs i hi, mkS_snoc, List.set_append_right _ _ (by rw [mkS_length, List.length_take]; omega), mkS_length, List.length_take, Nat.min_eq_left (Nat.le_of_lt hi), Nat.sub_self, List.drop_eq_getElem_cons hi, List.set_cons_zero, List.append_assoc]
  rfl
theorem sumBy_step (f : α → Nat) {xs : List α} {i : Nat} (hi : i < xs.length) (k : Int) : k + sumBy f (xs.take (i + 1)) = k + sumBy f (xs.take i) + f xs[i] := by rw [sumBy_take_succ f xs i hi]; omega
end
end Go.Proofs.YtlkkfbkghodncaaDoor

namespace Go.Proofs.YtlkkfbkghodncaaDoor
open Go.RowKit

def scanB (xs : List Dt) (d : Nat) (t : Ty) (v : V) (c : Int) : Bool := fitsV xs d t v && decide (c + nodes v ≤ 60)
/-- what valueScan gives: whether the value fits and the count stays within 60, and then the count -/
def ScanPost (xs : List Dt) (d : Nat) (t : Ty) (v : V) (c : Int) (g : Nat) (w : World) (e : Ending) (w' : World) : Prop :=
  ∃ c' : Int, e = .returned (.bool (scanB xs d t v c)) ∧ Chg [g] w w' ∧ Blk w' g 3 #[.int .i64 c'] ∧ (scanB xs d t v c = true → c' = c + nodes v) ∧ 0 ≤ c'
/-- contract of valueScan at one value -/
def ScanI (v : V) : Prop := ∀ (xs : List Dt) (_ : WorldOK xs) (d deep : Nat) (_ : d + deep = 11) (_ : 1 ≤ deep) (t : Ty) (_ : TyIn xs.length t) (w : World) (x : Value) (F : List Nat) (cs : List Value) (G : List Nat) (g : Nat) (c : Int), Arr w (DtR w) xs x F → Under w.heap.size F → VR w v cs G → Under w.heap.size G →
  Blk w g 3 #[.int .i64 c] → g ∉ F → g ∉ G → 0 ≤ c → c ≤ 60 →
  Calls Tryd.prog 44 #[x, .agg #[.int .i64 t.d, .int .i64 t.i], .agg cs.toArray, .int .i64 (deep : Int), .bool false, .pointer (some ⟨g, 0, none⟩)] w (ScanPost xs d t v c g w)
theorem isNum_nodes {v : V} (h : isNum v = true) : nodes v = 1 := by
  unfold isNum at h
  simp only [Bool.and_eq_true, decide_eq_true_eq] at h
  rw [nodes_ks, List.length_eq_zero_iff.1 h.2.2]; rfl

set_option maxRecDepth 100000 in
set_option maxHeartbeats 1600000 in
theorem valueScan_of (v : V) (ih : ∀ k ∈ v.ks, ScanI k) : ScanI v := by
  intro xs hw d deep hdd hdp t ht w x F cs G g c hx hf hv hg hgb hgF hgG hc0 hc60
  obtain ⟨kv, rfl, ha⟩ := (VR_iff _ _ _).1 hv
  obtain ⟨A, cap, rfl, hc1, hc2⟩ := hx.form
  obtain ⟨A4, cap4, rfl, hc3, hc4⟩ := ha.form
  have HW := Lib.hid hw
  have IH := Lib.hid ih
  have HGF := Lib.hid hgF
  have HGG := Lib.hid hgG
  have hgl := hgb.lt
  have gx : w.cell? ⟨g, 0, none⟩ = some (.int .i64 c) := (hgb.cell 0).trans (by simp)
  have gf := hgb.frozen 0
  have HGB := Lib.hid hgb
  have HNP : Hid (1 ≤ nodes v) := by unfold nodes; exact Nat.le_add_right _ _
  have HX := Lib.hid hx
  have HF := Lib.hid hf
  have HA := Lib.hid ha
  have HG := Lib.hid hg
  clear hx hf ha hg
  clear hw ih hv hgF hgG hgb
  by_cases hcc : 60 < c + 1
  · have t9 : decide (c + 1 > 60) = true := by simpa using hcc
    have HT : Hid (scanB xs d t v c = false) := by
      have := HNP.out
      unfold Hid scanB; rw [decide_eq_false (by omega), Bool.and_false]
    have KG : Hid (Blk (((w.setCell ⟨g, 0, none⟩ (.int .i64 (c + 1))).alloc (.cells #[.int .i64 t.d, .int .i64 t.i] 33)).alloc (.cells #[.int .i64 v.c, .int .i64 v.n, .slice A4 v.ks.length cap4] 37)) g 3 #[.int .i64 (c + 1)]) := by
      have h1 : Blk (w.setCell ⟨g, 0, none⟩ (.int .i64 (c + 1))) g 3 #[.int .i64 (c + 1)] := HGB.out.set_ 0 (.int .i64 (c + 1))
      exact (h1.same (Below.heap_alloc _ _ _ h1.lt)).same (Below.heap_alloc _ _ _ (by have := h1.lt; simp; omega))
    have HCG : Hid (Chg [g] w (((w.setCell ⟨g, 0, none⟩ (.int .i64 (c + 1))).alloc (.cells #[.int .i64 t.d, .int .i64 t.i] 33)).alloc (.cells #[.int .i64 v.c, .int .i64 v.n, .slice A4 v.ks.length cap4] 37))) := (((Chg.refl [g] w).set (by simp)).step ((Below.refl _ _).alloc (Nat.le_refl _) _)).step ((Below.refl _ _).alloc (Nat.le_refl _) _)
    have hfin : ScanPost xs d t v c g w (.returned (.bool false)) (((w.setCell ⟨g, 0, none⟩ (.int .i64 (c + 1))).alloc (.cells #[.int .i64 t.d, .int .i64 t.i] 33)).alloc (.cells #[.int .i64 v.c, .int .i64 v.n, .slice A4 v.ks.length cap4] 37)) := ⟨c + 1, by rw [HT.out], HCG.out, KG.out, (fun h => by rw [HT.out] at h; cases h), by omega⟩
    have HFin := Lib.hid hfin
    clear hfin
    go_enter Tryd.func44, Tryd.ntmps44
    go_wp2
    go_ret
    exact HFin.out
  · have t9 : decide (c + 1 > 60) = false := by simp; omega
    cases d with
    | zero =>
      have t8 : decide ((deep : Int) > 10) = true := by simp; omega
      have HT : Hid (scanB xs 0 t v c = false) := rfl
      have KG : Hid (Blk (((w.setCell ⟨g, 0, none⟩ (.int .i64 (c + 1))).alloc (.cells #[.int .i64 t.d, .int .i64 t.i] 33)).alloc (.cells #[.int .i64 v.c, .int .i64 v.n, .slice A4 v.ks.length cap4] 37)) g 3 #[.int .i64 (c + 1)]) := by
        have h1 : Blk (w.setCell ⟨g, 0, none⟩ (.int .i64 (c + 1))) g 3 #[.int .i64 (c + 1)] := HGB.out.set_ 0 (.int .i64 (c + 1))
        exact (h1.same (Below.heap_alloc _ _ _ h1.lt)).same (Below.heap_alloc _ _ _ (by have := h1.lt; simp; omega))
      have HCG : Hid (Chg [g] w (((w.setCell ⟨g, 0, none⟩ (.int .i64 (c + 1))).alloc (.cells #[.int .i64 t.d, .int .i64 t.i] 33)).alloc (.cells #[.int .i64 v.c, .int .i64 v.n, .slice A4 v.ks.length cap4] 37))) := (((Chg.refl [g] w).set (by simp)).step ((Below.refl _ _).alloc (Nat.le_refl _) _)).step ((Below.refl _ _).alloc (Nat.le_refl _) _)
      have hfin : ScanPost xs 0 t v c g w (.returned (.bool false)) (((w.setCell ⟨g, 0, none⟩ (.int .i64 (c + 1))).alloc (.cells #[.int .i64 t.d, .int .i64 t.i] 33)).alloc (.cells #[.int .i64 v.c, .int .i64 v.n, .slice A4 v.ks.length cap4] 37)) := ⟨c + 1, by rw [HT.out], HCG.out, KG.out, (fun h => by rw [HT.out] at h; cases h), by omega⟩
      have HFin := Lib.hid hfin
      clear hfin
      go_enter Tryd.func44, Tryd.ntmps44
      go_wp2
      go_ret
      exact HFin.out
    | succ d =>
    have t8 : decide ((deep : Int) > 10) = false := by simp; omega
    obtain ⟨W3, hW3⟩ : ∃ W3, W3 = (((w.setCell ⟨g, 0, none⟩ (.int .i64 (c + 1))).alloc (.cells #[.int .i64 t.d, .int .i64 t.i] 33)).alloc (.cells #[.int .i64 v.c, .int .i64 v.n, .slice A4 v.ks.length cap4] 37)) := ⟨_, rfl⟩
    have KT : Hid (Blk W3 w.heap.size 33 #[.int .i64 t.d, .int .i64 t.i]) := by
      rw [hW3]
      have h := Blk.new (w.setCell ⟨g, 0, none⟩ (.int .i64 (c + 1))) 33 #[.int .i64 t.d, .int .i64 t.i]
      rw [show ((w.setCell ⟨g, 0, none⟩ (.int .i64 (c + 1)))).heap.size = w.heap.size from by simp [World.setCell]] at h
      exact h.same (Below.heap_alloc _ _ _ (by simp [World.setCell]))
    have KV : Hid (Blk W3 (w.heap.size + 1) 37 #[.int .i64 v.c, .int .i64 v.n, .slice A4 v.ks.length cap4]) := by
      rw [hW3]
      have h := Blk.new ((w.setCell ⟨g, 0, none⟩ (.int .i64 (c + 1))).alloc (.cells #[.int .i64 t.d, .int .i64 t.i] 33)) 37 #[.int .i64 v.c, .int .i64 v.n, .slice A4 v.ks.length cap4]
      rw [World.size_alloc, show ((w.setCell ⟨g, 0, none⟩ (.int .i64 (c + 1)))).heap.size = w.heap.size from by simp [World.setCell]] at h
      exact h
    have KG : Hid (Blk W3 g 3 #[.int .i64 (c + 1)]) := by
      rw [hW3]
      have h1 : Blk (w.setCell ⟨g, 0, none⟩ (.int .i64 (c + 1))) g 3 #[.int .i64 (c + 1)] := HGB.out.set_ 0 (.int .i64 (c + 1))
      exact (h1.same (Below.heap_alloc _ _ _ h1.lt)).same (Below.heap_alloc _ _ _ (by have := h1.lt; simp; omega))
    have HCG : Hid (Chg [g] w W3) := by
      rw [hW3]; exact (((Chg.refl [g] w).set (by simp)).step ((Below.refl _ _).alloc (Nat.le_refl _) _)).step ((Below.refl _ _).alloc (Nat.le_refl _) _)
    have HX3 : Hid (Arr W3 (DtR W3) xs (.slice A xs.length cap) F) := ArrDt.mono HX.out (HCG.out.kept HF.out (fun b hb h => HGF.out (by rw [← List.mem_singleton.1 h]; exact hb)))
    have HF3 := Lib.hid (HF.out.mono HCG.out.size)
    have HA3 : Hid (Arr W3 (VR W3) v.ks (.slice A4 v.ks.length cap4) G) := ArrV.mono HA.out (HCG.out.kept HG.out (fun b hb h => HGG.out (by rw [← List.mem_singleton.1 h]; exact hb)))
    have HG3 := Lib.hid (HG.out.mono HCG.out.size)
    have y0 : W3.cell? ⟨w.heap.size, 0, none⟩ = some (.int .i64 t.d) := (KT.out.cell 0).trans (by simp)
    have y1 : W3.cell? ⟨w.heap.size, 1, none⟩ = some (.int .i64 t.i) := (KT.out.cell 1).trans (by simp)
    have z0 : W3.cell? ⟨w.heap.size + 1, 0, none⟩ = some (.int .i64 v.c) := (KV.out.cell 0).trans (by simp)
    have z1 : W3.cell? ⟨w.heap.size + 1, 1, none⟩ = some (.int .i64 v.n) := (KV.out.cell 1).trans (by simp)
    have z2 : W3.cell? ⟨w.heap.size + 1, 2, none⟩ = some (.slice A4 v.ks.length cap4) := (KV.out.cell 2).trans (by simp)
    have klt := KT.out.lt
    have klt2 := KV.out.lt
    have hgl3 := KG.out.lt
    rcases ht with ht | ⟨q, r, rfl, hql, hrl⟩
    · have t0 : (t.d == -1) = true := by simp [ht]
      have hfi := fitsV_int (xs := xs) (d := d) (v := v) ht
      have hEnd : ∀ r : Bool, isNum v = r → ScanPost xs (d + 1) t v c g w (.returned (.bool r)) W3 := fun r hr => by
        have hT : scanB xs (d + 1) t v c = r := by
          unfold scanB
          rw [hfi, hr]
          cases r with
          | false => rfl
          | true => rw [isNum_nodes hr, Bool.true_and]; exact decide_eq_true (by omega)
        exact ⟨c + 1, by rw [hT], HCG.out, KG.out, (fun h => by rw [hT] at h; rw [isNum_nodes (hr.trans h)]; rfl), by omega⟩
      have HEnd := Lib.hid hEnd
      clear hEnd hfi ht
      cases q0 : (v.c == -1) with
      | false =>
        have HFin := Lib.hid (HEnd.out false (by unfold isNum; rw [q0]; rfl))
        go_enter Tryd.func44, Tryd.ntmps44
        go_wp2_with fail
        rw [← hW3]
        clear hW3
        go_wp2
        go_ret
        exact HFin.out
      | true =>
        cases q1 : withinB v.n 0 9 with
        | false =>
          have HFin := Lib.hid (HEnd.out false (by unfold isNum; rw [q0, q1]; rfl))
          have HQ1 := Lib.hid q1
          clear q1
          go_enter Tryd.func44, Tryd.ntmps44
          go_wp2_with fail
          rw [← hW3]
          clear hW3
          refine (impl_within v.n 0 9 W3).mono ?_
          rintro e w5 ⟨rfl, rfl⟩
          rw [HQ1.out]
          go_wp2
          go_ret
          exact HFin.out
        | true =>
          by_cases q2 : v.ks.length = 0
          · have HFin := Lib.hid (HEnd.out true (by unfold isNum; rw [q0, q1, decide_eq_true q2]; rfl))
            have t3 : ((v.ks.length : Int) == 0) = true := by simp [q2]
            have HQ1 := Lib.hid q1
            clear q1 q2
            go_enter Tryd.func44, Tryd.ntmps44
            go_wp2_with fail
            rw [← hW3]
            clear hW3
            refine (impl_within v.n 0 9 W3).mono ?_
            rintro e w5 ⟨rfl, rfl⟩
            rw [HQ1.out]
            go_wp2
            go_ret
            exact HFin.out
          · have HFin := Lib.hid (HEnd.out false (by unfold isNum; rw [q0, q1, decide_eq_false q2]; rfl))
            have t3 : ((v.ks.length : Int) == 0) = false := by simp; simpa using q2
            have HQ1 := Lib.hid q1
            clear q1 q2
            go_enter Tryd.func44, Tryd.ntmps44
            go_wp2_with fail
            rw [← hW3]
            clear hW3
            refine (impl_within v.n 0 9 W3).mono ?_
            rintro e w5 ⟨rfl, rfl⟩
            rw [HQ1.out]
            go_wp2
            go_ret
            exact HFin.out
    · have t0 : ((q : Int) == -1) = false := by rw [beq_eq_false_iff_ne]; omega
      have hfd := fitsV_data (xs := xs) (d := d) (v := v) (t := ⟨(q : Int), (r : Int)⟩) (by show ¬ ((q : Int) = -1); omega)
      have HFD := Lib.hid hfd
      clear hfd
      have HBad : Hid (∀ W c', fitsV xs (d + 1) ⟨(q : Int), (r : Int)⟩ v = false ∨ (60 : Int) < c + nodes v → Chg [g] w W → Blk W g 3 #[.int .i64 c'] → 0 ≤ c' → ScanPost xs (d + 1) ⟨(q : Int), (r : Int)⟩ v c g w (.returned (.bool false)) W) := fun W c' h hC hK hc' => by
        have hT : scanB xs (d + 1) ⟨(q : Int), (r : Int)⟩ v c = false := by
          unfold scanB
          rcases h with h | h
          · rw [h]; rfl
          · rw [decide_eq_false (by omega), Bool.and_false]
        exact ⟨c', by rw [hT], hC, hK, (fun h => by rw [hT] at h; cases h), hc'⟩
      go_enter Tryd.func44, Tryd.ntmps44
      go_wp2_with fail
      rw [← hW3]
      clear hW3
      cases q0 : (v.n == 0) with
      | false =>
        have t1 : (v.n != 0) = true := by rw [bne, q0]; rfl
        have HFin : Hid (∀ n, ScanPost xs (d + 1) ⟨(q : Int), (r : Int)⟩ v c g w (.returned (.bool false)) (W3.drewN n)) := fun n => HBad.out _ (c + 1) (.inl (by rw [HFD.out, q0]; rfl)) (HCG.out.drewN n) KG.out (by omega)
        clear q0
        go_quiet (fail)
        go_wp2
        go_ret
        exact HFin.out _
      | true =>
        have t1 : (v.n != 0) = false := by rw [bne, q0]; rfl
        have h1 : fitsV xs (d + 1) ⟨(q : Int), (r : Int)⟩ v = (hasB (ctorsL xs ⟨(q : Int), (r : Int)⟩) v.c && (decide (v.ks.length = (argsOf xs ⟨(q : Int), (r : Int)⟩ v.c).length) && zipAll (fitsV xs d) (argsOf xs ⟨(q : Int), (r : Int)⟩ v.c) v.ks)) := by rw [HFD.out, q0, Bool.true_and]
        have H1 := Lib.hid h1
        have HIW : Hid (InWorld xs.length ⟨(q : Int), (r : Int)⟩) := .inr ⟨q, rfl, hql⟩
        clear h1 q0
        have hBr := Below.refl W3.heap.size W3
        have hkeep : ∀ U U' : World, (U.cell? ⟨w.heap.size, 0, none⟩ = some (.int .i64 (q : Int)) ∧ U.cell? ⟨w.heap.size, 1, none⟩ = some (.int .i64 (r : Int)) ∧ U.cell? ⟨w.heap.size + 1, 0, none⟩ = some (.int .i64 v.c) ∧ U.cell? ⟨w.heap.size + 1, 1, none⟩ = some (.int .i64 v.n) ∧ U.cell? ⟨w.heap.size + 1, 2, none⟩ = some (.slice A4 v.ks.length cap4)) → Below U.heap.size U U' → W3.heap.size ≤ U.heap.size → (U'.cell? ⟨w.heap.size, 0, none⟩ = some (.int .i64 (q : Int)) ∧ U'.cell? ⟨w.heap.size, 1, none⟩ = some (.int .i64 (r : Int)) ∧ U'.cell? ⟨w.heap.size + 1, 0, none⟩ = some (.int .i64 v.c) ∧ U'.cell? ⟨w.heap.size + 1, 1, none⟩ = some (.int .i64 v.n) ∧ U'.cell? ⟨w.heap.size + 1, 2, none⟩ = some (.slice A4 v.ks.length cap4)) := fun U U' h hUU hU => ⟨(hUU.cell (Nat.lt_of_lt_of_le (klt) hU)).trans h.1, (hUU.cell (Nat.lt_of_lt_of_le (klt) hU)).trans h.2.1, (hUU.cell (Nat.lt_of_lt_of_le (klt2) hU)).trans h.2.2.1, (hUU.cell (Nat.lt_of_lt_of_le (klt2) hU)).trans h.2.2.2.1, (hUU.cell (Nat.lt_of_lt_of_le (klt2) hU)).trans h.2.2.2.2⟩
        have HKeep := Lib.hid hkeep
        clear hkeep
        go_region_held3 (fun w' => w'.cell? ⟨w.heap.size, 0, none⟩ = some (.int .i64 (q : Int)) ∧ w'.cell? ⟨w.heap.size, 1, none⟩ = some (.int .i64 (r : Int)) ∧ w'.cell? ⟨w.heap.size + 1, 0, none⟩ = some (.int .i64 v.c) ∧ w'.cell? ⟨w.heap.size + 1, 1, none⟩ = some (.int .i64 v.n) ∧ w'.cell? ⟨w.heap.size + 1, 2, none⟩ = some (.slice A4 v.ks.length cap4)) (first | assumption | (exact ⟨y0, y1, z0, z1, z2⟩) | (exact HKeep.out W3.drew w4 ⟨y0, y1, z0, z1, z2⟩ hb4 (Nat.le_refl _)) | (exact HKeep.out w4 w5 (by assumption) hb5 hlew4)) (first | (go_at_call 59; ((with_reducible refine (impl_ctorsOf xs ⟨(q : Int), (r : Int)⟩ _ _ F (ArrDt.below HX3.out hBr.drew HF3.out) (HF3.out.mono hBr.drew.size) HW.out HIW.out).mono ?_); rintro e w4 ⟨v4, F4, rfl, hb4, ha4, -, hfs4⟩); have hlew4 : W3.heap.size ≤ w4.heap.size := hb4.size) | (go_at_call 58; ((with_reducible refine (impl_has (ctorsL xs ⟨(q : Int), (r : Int)⟩) v.c _ _ F4 ha4 hfs4.under).mono ?_); rintro e w5 ⟨rfl, hb5⟩)))
        have hBa := hBr.drew.trans (hb4.mono hBr.drew.size)
        have hB5 := hBa.trans (hb5.mono hBa.size)
        have KT5 := Lib.hid (KT.out.same (hB5.block _ KT.out.lt))
        have KV5 := Lib.hid (KV.out.same (hB5.block _ KV.out.lt))
        have KG5 := Lib.hid (KG.out.same (hB5.block _ KG.out.lt))
        have HCG5 := Lib.hid (HCG.out.step hB5)
        have HX5 := Lib.hid (ArrDt.below HX3.out hB5 HF3.out)
        have HF5 := Lib.hid (HF3.out.mono hB5.size)
        have HA5 := Lib.hid (ArrV.below HA3.out hB5 HG3.out)
        have HG5 := Lib.hid (HG3.out.mono hB5.size)
        clear HKeep KT KV KG HCG HX3 HF3 HA3 HG3 y0 y1 z0 z1 z2 klt klt2 hBa hb4 hb5 ha4 hfs4 hBr t1 hgl3 gx gf
        cases e1 : hasB (ctorsL xs ⟨(q : Int), (r : Int)⟩) v.c with
        | false =>
          have HFin := Lib.hid (HBad.out w5 (c + 1) (.inl (by rw [H1.out, e1]; rfl)) HCG5.out KG5.out (by omega))
          clear e1
          go_wp2
          go_ret
          exact HFin.out
        | true =>
          obtain ⟨q', k, e2, hvc, hq', hkl⟩ := mem_ctorsL (xs := xs) (t := ⟨(q : Int), (r : Int)⟩) (.inr ⟨q, rfl, hql⟩) ((hasB_iff _ _).1 e1)
          obtain rfl : q = q' := Int.ofNat.inj e2
          have h2 := H1.out
          rw [e1, Bool.true_and, hvc, argsOf_get hql hkl] at h2
          have H2 := Lib.hid h2
          clear h2 e1 e2
          have HAI := Lib.hid (fun a ha => argTy_in (HW.out.ctor hql hkl) (i := (r : Int)) (by omega) (by omega) (a := a) ha)
          have HLA := Lib.hid (HW.out.ctor hql hkl).args
          have y0 : w5.cell? ⟨w.heap.size, 0, none⟩ = some (.int .i64 (q : Int)) := (KT5.out.cell 0).trans (by simp)
          have y1 : w5.cell? ⟨w.heap.size, 1, none⟩ = some (.int .i64 (r : Int)) := (KT5.out.cell 1).trans (by simp)
          have z0 : w5.cell? ⟨w.heap.size + 1, 0, none⟩ = some (.int .i64 v.c) := (KV5.out.cell 0).trans (by simp)
          have klt := KT5.out.lt
          have klt2 := KV5.out.lt
          have HVC := Lib.hid hvc
          clear hvc
          go_wp2_with fail
          rw [HVC.out]
          refine (impl_argTypes xs q k (r : Int) hql hkl w5 _ F HX5.out HF5.out HLA.out).mono ?_
          rintro e w6 ⟨v6, F6, rfl, hb6, ha6, -, hfs6⟩
          have KV6 := Lib.hid (KV5.out.same (hb6.block _ KV5.out.lt))
          have KG6 := Lib.hid (KG5.out.same (hb6.block _ KG5.out.lt))
          have HCG6 := Lib.hid (HCG5.out.step hb6)
          generalize hass : argsL xs[q].ctors[k] (r : Int) = ls at *
          clear hass
          obtain ⟨A6, cap6, rfl, hd3, hd4⟩ := ha6.form
          have HA6 : Hid (Arr w6 (TyR w6) ls (.slice A6 ls.length cap6) F6 ∧ Under w6.heap.size F6) := ⟨ha6, hfs6.under⟩
          have HN6 : Hid (∀ b ∈ F6, b ∉ [g]) := fun b hb h => by
            have h1 := (hfs6 b hb).1
            rw [List.mem_singleton.1 h] at h1
            have := KG5.out.lt
            omega
          clear ha6 hfs6 KT5 KV5 KG5 HCG5 HX5 HF5 HA5 HG5 y0 y1 z0 klt klt2 hB5 hb6
          have z2 : w6.cell? ⟨w.heap.size + 1, 2, none⟩ = some (.slice A4 v.ks.length cap4) := (KV6.out.cell 2).trans (by simp)
          have klt2 := KV6.out.lt
          by_cases hln : v.ks.length = ls.length
          · have t2 : ((ls.length : Int) != (v.ks.length : Int)) = false := by simp [hln]
            have h3 : fitsV xs (d + 1) ⟨(q : Int), (r : Int)⟩ v = zipAll (fitsV xs d) ls v.ks := by rw [H2.out, decide_eq_true hln, Bool.true_and]
            have H3 := Lib.hid h3
            have HLN := Lib.hid hln
            clear h3 hln
            go_wp2
            clear z2 klt2 t2
            go_loopw [90] (fun iv wr => ∃ i : Nat, ∃ ci : Int, i ≤ v.ks.length ∧ iv = .int .i64 i ∧ 0 ≤ ci ∧ ci ≤ 60 ∧ Hid (ci = c + 1 + (V.sizes (v.ks.take i) : Nat)) ∧ Hid (fitsV xs (d + 1) ⟨(q : Int), (r : Int)⟩ v = zipAll (fitsV xs d) (ls.drop i) (v.ks.drop i)) ∧ Hid (Blk wr g 3 #[.int .i64 ci]) ∧ Hid (Chg [g] w wr) ∧ Hid (Arr wr (TyR wr) ls (.slice A6 ls.length cap6) F6 ∧ Under wr.heap.size F6)) (fun iv _ => v.ks.length - (intOf iv).toNat)
            case atStart => exact ⟨0, c + 1, Nat.zero_le _, rfl, by omega, by omega, (by show c + 1 = c + 1 + ((0 : Nat) : Int); omega), H3, KG6, HCG6, HA6⟩
            case round =>
              clear KG6 HCG6 HA6 KV6
              obtain ⟨i, ci, hi, rfl, hci0, hci1, HCI, HR, KG, HCG, HA6⟩ := hrel
              by_cases hik : i < v.ks.length
              · have hil : i < ls.length := by rw [← HLN.out]; exact hik
                obtain ⟨b6, off6, rfl⟩ := HA6.out.1.ptr (by omega)
                have HAw := Lib.hid (ArrV.mono HA.out (HCG.out.kept HG.out (fun b hb h => HGG.out (by rw [← List.mem_singleton.1 h]; exact hb))))
                have HGw := Lib.hid (HG.out.mono HCG.out.size)
                have HXw := Lib.hid (ArrDt.mono HX.out (HCG.out.kept HF.out (fun b hb h => HGF.out (by rw [← List.mem_singleton.1 h]; exact hb))))
                have HFw := Lib.hid (HF.out.mono HCG.out.size)
                obtain ⟨b4, off4, rfl⟩ := HAw.out.ptr (by omega)
                obtain ⟨A7, cap7, G7, hb7, k0, k1, k2, HV7, HG7, hG7G, -, -⟩ := ArrV.at HAw.out HGw.out (Below.refl _ _) i hik
                have HN7 : Hid (g ∉ G7) := fun h => HGG.out (hG7G _ h)
                clear hG7G
                have g1 : (0 : Int) ≤ (i : Int) := by omega
                have g2 : (i : Int) < (ls.length : Int) := by omega
                have g3 : (i : Int) < (v.ks.length : Int) := by omega
                have hstep := HR.out
                rw [zipAll_step hil hik] at hstep
                have HST := Lib.hid hstep
                clear hstep
                have hwr : IntKind.i64.wrap ((deep : Int) + 1) = (deep : Int) + 1 := IntWalk.i64_in _ (by omega)
                obtain ⟨W7, hW7⟩ : ∃ W7, W7 = wr.alloc (.cells #[.int .i64 v.ks[i].c, .int .i64 v.ks[i].n, .slice A7 v.ks[i].ks.length cap7] 37) := ⟨_, rfl⟩
                have hb77 : Below wr.heap.size wr W7 := by rw [hW7]; exact (Below.refl _ _).alloc (Nat.le_refl _) _
                have KX : Hid (Blk W7 wr.heap.size 37 #[.int .i64 v.ks[i].c, .int .i64 v.ks[i].n, .slice A7 v.ks[i].ks.length cap7]) := by rw [hW7]; exact Blk.new _ _ _
                have KG7 := Lib.hid (KG.out.same (hb77.block _ KG.out.lt))
                have HCG7 := Lib.hid (HCG.out.step hb77)
                have HX7 := Lib.hid (ArrDt.below HXw.out hb77 HFw.out)
                have HF7 := Lib.hid (HFw.out.mono hb77.size)
                have HV77 := Lib.hid (HV7.out.below hb77 HG7.out)
                have HG77 := Lib.hid (HG7.out.mono hb77.size)
                have HA67 : Hid (Arr W7 (TyR W7) ls (.slice (some ⟨b6, off6, none⟩) ls.length cap6) F6 ∧ Under W7.heap.size F6) := ⟨ArrTy.below HA6.out.1 hb77 HA6.out.2, HA6.out.2.mono hb77.size⟩
                have hgw : g < wr.heap.size := KG.out.lt
                have hne7 : wr.heap.size ≠ g := by omega
                go_wp2_with fail
                rw [← hW7]
                clear hW7 k0 k1 k2 hb7 HAw HGw HXw HFw HV7 HG7 KG HCG HA6
                obtain ⟨hb6, a0, a1⟩ := ArrTy.at HA67.out.1 HA67.out.2 (Below.refl _ _) i hil
                have hb6n : b6 ≠ g := by
                  obtain ⟨b', off', cs', G', e', hb', -⟩ := HA67.out.1.get TyR_len hil
                  cases e'
                  exact fun e => HN6.out _ hb' (by rw [e]; exact List.mem_singleton.2 rfl)
                have k0 : W7.cell? ⟨wr.heap.size, 0, none⟩ = some (.int .i64 v.ks[i].c) := (KX.out.cell 0).trans (by simp)
                have k1 : W7.cell? ⟨wr.heap.size, 1, none⟩ = some (.int .i64 v.ks[i].n) := (KX.out.cell 1).trans (by simp)
                have k2 : W7.cell? ⟨wr.heap.size, 2, none⟩ = some (.slice A7 v.ks[i].ks.length cap7) := (KX.out.cell 2).trans (by simp)
                have kxl := KX.out.lt
                have HNE := Lib.hid (show b6 ∉ [g] from fun h => hb6n (List.mem_singleton.1 h))
                have HNE7 := Lib.hid (show wr.heap.size ∉ [g] from fun h => hne7 (List.mem_singleton.1 h))
                clear hb6n hne7 hgw
                have HCALL := Lib.hid (IH.out v.ks[i] (List.getElem_mem hik) xs HW.out d (deep + 1) (by omega) (by omega) ls[i] (HAI.out _ (List.getElem_mem hil)) W7.drew _ F _ G7 g ci (ArrDt.drew HX7.out) HF7.out HV77.out.drew HG77.out KG7.out HGF.out HN7.out hci0 hci1)
                rw [show ((deep + 1 : Nat) : Int) = (deep : Int) + 1 by omega] at HCALL
                go_region_held3 (fun w' => w'.cell? ⟨b6, off6 + i * 2, none⟩ = some (.int .i64 ls[i].d) ∧ w'.cell? ⟨b6, off6 + i * 2 + 1, none⟩ = some (.int .i64 ls[i].i) ∧ w'.cell? ⟨wr.heap.size, 0, none⟩ = some (.int .i64 v.ks[i].c) ∧ w'.cell? ⟨wr.heap.size, 1, none⟩ = some (.int .i64 v.ks[i].n) ∧ w'.cell? ⟨wr.heap.size, 2, none⟩ = some (.slice A7 v.ks[i].ks.length cap7)) (first | assumption | (exact ⟨a0, a1, k0, k1, k2⟩) | (exact ⟨(hC'.cell hb6 HNE.out).trans a0, (hC'.cell hb6 HNE.out).trans a1, (hC'.cell kxl HNE7.out).trans k0, (hC'.cell kxl HNE7.out).trans k1, (hC'.cell kxl HNE7.out).trans k2⟩)) (first | (go_at_call 44; ((with_reducible refine HCALL.out.mono ?_); rintro e w' ⟨c', rfl, hC', hK', hy', hp'⟩)))
                have hC2 := hC'.undrew
                have HCG8 := Lib.hid (HCG7.out.trans hC2)
                have HK8 := Lib.hid hK'
                have HA68 : Hid (Arr w' (TyR w') ls (.slice (some ⟨b6, off6, none⟩) ls.length cap6) F6 ∧ Under w'.heap.size F6) := ⟨ArrTy.mono HA67.out.1 (hC2.kept HA67.out.2 HN6.out), HA67.out.2.mono hC2.size⟩
                clear hwr hC' hC2 hK' a0 a1 k0 k1 k2
                cases e3 : scanB xs d ls[i] v.ks[i] ci with
                | false =>
                  have HFin := Lib.hid (HBad.out w' c' (by
                    unfold scanB at e3
                    rw [Bool.and_eq_false_iff] at e3
                    rcases e3 with h | h
                    · left; rw [HST.out, h]; rfl
                    · right
                      have h1 := of_decide_eq_false h
                      have h2 := HCI.out
                      have h3 := sizes_step hik
                      have h4 := sizes_take_le v.ks (i + 1)
                      have h5 := nodes_ks v
                      omega) HCG8.out HK8.out hp')
                  clear e3 hy'
                  go_wp2
                  go_ret
                  exact HFin.out
                | true =>
                  have hcc2 := hy' e3
                  unfold scanB at e3
                  rw [Bool.and_eq_true] at e3
                  have h60 := of_decide_eq_true e3.2
                  have hR2 : Hid (fitsV xs (d + 1) ⟨(q : Int), (r : Int)⟩ v = zipAll (fitsV xs d) (ls.drop (i + 1)) (v.ks.drop (i + 1))) := by rw [HST.out, e3.1, Bool.true_and]; rfl
                  have hCI2 : Hid (c' = c + 1 + (V.sizes (v.ks.take (i + 1)) : Nat)) := by
                    have h2 := HCI.out
                    have h3 := sizes_step hik
                    unfold Hid
                    omega
                  have hc60' : c' ≤ 60 := by omega
                  clear e3 hy' hcc2 h60
                  go_wp2
                  go_roundw
                  case rel => exact ⟨i + 1, c', by omega, by go_num, hp', hc60', hCI2, hR2, HK8, HCG8, HA68⟩
                  case measure => (simp [intOf] <;> omega)
              · have hT : scanB xs (d + 1) ⟨(q : Int), (r : Int)⟩ v c = true := by
                  unfold scanB
                  have h1 := HCI.out
                  have h5 := nodes_ks v
                  rw [List.take_of_length_le (by omega)] at h1
                  rw [HR.out, zipAll_end (by have := HLN.out; omega), Bool.true_and]
                  exact decide_eq_true (by omega)
                have hfin : ScanPost xs (d + 1) ⟨(q : Int), (r : Int)⟩ v c g w (.returned (.bool true)) wr := ⟨ci, by rw [hT], HCG.out, KG.out, fun _ => by
                  have h1 := HCI.out
                  have h5 := nodes_ks v
                  rw [List.take_of_length_le (by omega)] at h1
                  omega, hci0⟩
                have HFin := Lib.hid hfin
                clear hfin hT
                go_wp2
                go_ret
                exact HFin.out
          · have t2 : ((ls.length : Int) != (v.ks.length : Int)) = true := by rw [bne_iff_ne]; omega
            have HFin := Lib.hid (HBad.out w6 (c + 1) (.inl (by rw [H2.out, decide_eq_false hln]; rfl)) HCG6.out KG6.out (by omega))
            clear hln
            go_wp2
            go_ret
            exact HFin.out
theorem impl_valueScan : ∀ v, ScanI v := V.indv valueScan_of
end Go.Proofs.YtlkkfbkghodncaaDoor

namespace Go.Proofs.YtlkkfbkghodncaaDoor
open Go.RowKit

set_option maxRecDepth 100000 in
set_option maxHeartbeats 1600000 in
theorem spec_l2Is (xs : List Dt) (t : Ty) (v : V) (w : World) (x : Value) (F : List Nat) (cs : List Value) (G : List Nat) (hx : Arr w (DtR w) xs x F) (hf : Under w.heap.size F) (hv : VR w v cs G) (hg : Under w.heap.size G) (hw : WorldOK xs) (ht : TyIn xs.length t) (hz : v.size ≤ 1048576) :
    Calls Tryd.prog 25 #[x, .agg #[.int .i64 t.d, .int .i64 t.i], .agg cs.toArray] w fun e w' => e = .returned (.bool (valueOkB xs t v)) ∧ Below w.heap.size w w' := by
  obtain ⟨kv, rfl, ha⟩ := (VR_iff _ _ _).1 hv
  obtain ⟨A, cap, rfl, hc1, hc2⟩ := hx.form
  obtain ⟨A4, cap4, rfl, hc3, hc4⟩ := ha.form
  have HV := Lib.hid hv
  have HX := Lib.hid hx
  have HF := Lib.hid hf
  have HG := Lib.hid hg
  clear hx hf hg
  clear ha hv
  go_enter Tryd.func25, Tryd.ntmps25
  go_wp2_with fail
  obtain ⟨W2, hW2⟩ : ∃ W2, W2 = ((w.alloc (.cells #[.int .i64 t.d, .int .i64 t.i] 33)).alloc (.cells #[.int .i64 v.c, .int .i64 v.n, .slice A4 v.ks.length cap4] 37)) := ⟨_, rfl⟩
  have hB0 : Below w.heap.size w W2 := by rw [hW2]; exact ((Below.refl _ _).alloc (Nat.le_refl _) _).alloc (by simp) _
  have KT : Hid (Blk W2 w.heap.size 33 #[.int .i64 t.d, .int .i64 t.i]) := by rw [hW2]; exact (Blk.new w _ _).same (Below.heap_alloc _ _ _ (by simp))
  have KV : Hid (Blk W2 (w.heap.size + 1) 37 #[.int .i64 v.c, .int .i64 v.n, .slice A4 v.ks.length cap4]) := by rw [hW2]; have h := Blk.new (w.alloc (.cells #[.int .i64 t.d, .int .i64 t.i] 33)) 37 #[.int .i64 v.c, .int .i64 v.n, .slice A4 v.ks.length cap4]; rw [World.size_alloc] at h; exact h
  rw [← hW2]
  clear hW2
  refine (spec_l2Fits v xs hw 10 (Nat.le_refl _) t ht W2 _ F _ G (ArrDt.below HX.out hB0 HF.out) (HF.out.mono hB0.size) (HV.out.below hB0 HG.out) (HG.out.mono hB0.size)).mono ?_
  rintro e w3 ⟨rfl, hb3⟩
  have hB3 := hB0.trans (hb3.mono hB0.size)
  have KV3 := Lib.hid (KV.out.same (hb3.block _ KV.out.lt))
  have KT3 := Lib.hid (KT.out.same (hb3.block _ KT.out.lt))
  have y0 : w3.cell? ⟨w.heap.size, 0, none⟩ = some (.int .i64 t.d) := (KT3.out.cell 0).trans (by simp)
  have y1 : w3.cell? ⟨w.heap.size, 1, none⟩ = some (.int .i64 t.i) := (KT3.out.cell 1).trans (by simp)
  have z0 : w3.cell? ⟨w.heap.size + 1, 0, none⟩ = some (.int .i64 v.c) := (KV3.out.cell 0).trans (by simp)
  have z1 : w3.cell? ⟨w.heap.size + 1, 1, none⟩ = some (.int .i64 v.n) := (KV3.out.cell 1).trans (by simp)
  have z2 : w3.cell? ⟨w.heap.size + 1, 2, none⟩ = some (.slice A4 v.ks.length cap4) := (KV3.out.cell 2).trans (by simp)
  have klt := KT3.out.lt
  have klt2 := KV3.out.lt
  clear hb3 KT KV
  cases e1 : fitsV xs 10 t v with
  | false =>
    have hf : Hid (valueOkB xs t v = false) := by unfold Hid valueOkB; rw [e1]; rfl
    clear e1
    go_wp2
    go_ret
    exact ⟨ret_bool hf.out.symm, hB3⟩
  | true =>
    have hf : Hid (valueOkB xs t v = decide (nodes v ≤ 60)) := by unfold Hid valueOkB; rw [e1]; rfl
    clear e1
    go_wp2_with fail
    refine (spec_l2Count v 60 (by omega) (by omega) w3 _ G (HV.out.below hB3 HG.out) (HG.out.mono hB3.size) (by unfold nodes; omega)).mono ?_
    rintro e w4 ⟨c, rfl, hu, hb4⟩
    have hB4 := hB3.trans (hb4.mono hB3.size)
    have hcd : decide (c ≤ 60) = decide (nodes v ≤ 60) := by
      have h1 := hu.yes
      have h2 := hu.no
      by_cases h : nodes v ≤ 60
      · rw [decide_eq_true h]; exact decide_eq_true (by have := h1 (by omega); omega)
      · rw [decide_eq_false h]; exact decide_eq_false (by have := h2 (by omega); omega)
    have HCD := Lib.hid hcd
    clear hu hcd hb4
    go_wp2
    go_ret
    exact ⟨ret_bool (hf.out.trans HCD.out.symm).symm, hB4⟩

set_option maxRecDepth 100000 in
set_option maxHeartbeats 1600000 in
theorem impl_valueOk (xs : List Dt) (t : Ty) (v : V) (w : World) (x : Value) (F : List Nat) (cs : List Value) (G : List Nat) (hx : Arr w (DtR w) xs x F) (hf : Under w.heap.size F) (hv : VR w v cs G) (hg : Under w.heap.size G) (hw : WorldOK xs) (ht : TyIn xs.length t) (hz : v.size ≤ 1048576) :
    Calls Tryd.prog 30 #[x, .agg #[.int .i64 t.d, .int .i64 t.i], .agg cs.toArray] w fun e w' => e = .returned (.bool (valueOkB xs t v)) ∧ Below w.heap.size w w' := by
  obtain ⟨kv, rfl, ha⟩ := (VR_iff _ _ _).1 hv
  obtain ⟨A, cap, rfl, hc1, hc2⟩ := hx.form
  obtain ⟨A4, cap4, rfl, hc3, hc4⟩ := ha.form
  have HV := Lib.hid hv
  have HX := Lib.hid hx
  have HF := Lib.hid hf
  have HG := Lib.hid hg
  clear hx hf hg
  clear ha hv
  go_enter Tryd.func30, Tryd.ntmps30
  go_wp2_with fail
  obtain ⟨W2, hW2⟩ : ∃ W2, W2 = (((w.alloc (.cells #[.int .i64 t.d, .int .i64 t.i] 33)).alloc (.cells #[.int .i64 v.c, .int .i64 v.n, .slice A4 v.ks.length cap4] 37)).alloc (.cells #[.int .i64 0] 3)) := ⟨_, rfl⟩
  have hB0 : Below w.heap.size w W2 := by rw [hW2]; exact (((Below.refl _ _).alloc (Nat.le_refl _) _).alloc (by simp) _).alloc (by simp; omega) _
  have KG : Hid (Blk W2 (w.heap.size + 2) 3 #[.int .i64 0]) := by
    rw [hW2]
    have h := Blk.new ((w.alloc (.cells #[.int .i64 t.d, .int .i64 t.i] 33)).alloc (.cells #[.int .i64 v.c, .int .i64 v.n, .slice A4 v.ks.length cap4] 37)) 3 #[.int .i64 0]
    rw [show (((w.alloc (.cells #[.int .i64 t.d, .int .i64 t.i] 33)).alloc (.cells #[.int .i64 v.c, .int .i64 v.n, .slice A4 v.ks.length cap4] 37))).heap.size = w.heap.size + 2 from by simp] at h
    exact h
  rw [← hW2]
  clear hW2
  refine (impl_valueScan v xs hw 10 1 rfl (Nat.le_refl _) t ht W2 _ F _ G (w.heap.size + 2) 0 (ArrDt.below HX.out hB0 HF.out) (HF.out.mono hB0.size) (HV.out.below hB0 HG.out) (HG.out.mono hB0.size) KG.out (fun h => by have := HF.out _ h; omega) (fun h => by have := HG.out _ h; omega) (by omega) (by omega)).mono ?_
  rintro e w3 ⟨c', rfl, hC, -, -, -⟩
  have hB3 := hB0.trans (hC.below (B := w.heap.size) (fun b hb => by rw [List.mem_singleton.1 hb]; omega) hB0.size)
  have hf : Hid (valueOkB xs t v = scanB xs 10 t v 0) := by
    unfold Hid valueOkB scanB
    congr 1
    exact decide_eq_decide.2 (by omega)
  generalize hbb : scanB xs 10 t v 0 = bb at *
  clear hbb hC
  go_wp2
  go_ret
  exact ⟨ret_bool hf.out.symm, hB3⟩

set_option maxRecDepth 100000 in
set_option maxHeartbeats 1600000 in
theorem spec_ValueValid (xs : List Dt) (t : Ty) (v : V) (w : World) (x : Value) (F : List Nat) (cs : List Value) (G : List Nat) (hx : Arr w (DtR w) xs x F) (hf : Under w.heap.size F) (hv : VR w v cs G) (hg : Under w.heap.size G) (hz : v.size ≤ 1048576) :
    Calls Tryd.prog 15 #[x, .agg #[.int .i64 t.d, .int .i64 t.i], .agg cs.toArray] w fun e w' => e = .returned (.bool (valueValidB xs t v)) ∧ Below w.heap.size w w' := by
  obtain ⟨kv, rfl, ha⟩ := (VR_iff _ _ _).1 hv
  obtain ⟨A, cap, rfl, hc1, hc2⟩ := hx.form
  obtain ⟨A4, cap4, rfl, hc3, hc4⟩ := ha.form
  have HV := Lib.hid hv
  have HX := Lib.hid hx
  have HF := Lib.hid hf
  have HG := Lib.hid hg
  clear hx hf hg
  clear ha hv
  go_enter Tryd.func15, Tryd.ntmps15
  go_wp2_with fail
  obtain ⟨W2, hW2⟩ : ∃ W2, W2 = ((w.alloc (.cells #[.int .i64 t.d, .int .i64 t.i] 33)).alloc (.cells #[.int .i64 v.c, .int .i64 v.n, .slice A4 v.ks.length cap4] 37)) := ⟨_, rfl⟩
  have hB0 : Below w.heap.size w W2 := by rw [hW2]; exact ((Below.refl _ _).alloc (Nat.le_refl _) _).alloc (by simp) _
  have KT : Hid (Blk W2 w.heap.size 33 #[.int .i64 t.d, .int .i64 t.i]) := by rw [hW2]; exact (Blk.new w _ _).same (Below.heap_alloc _ _ _ (by simp))
  have KV : Hid (Blk W2 (w.heap.size + 1) 37 #[.int .i64 v.c, .int .i64 v.n, .slice A4 v.ks.length cap4]) := by rw [hW2]; have h := Blk.new (w.alloc (.cells #[.int .i64 t.d, .int .i64 t.i] 33)) 37 #[.int .i64 v.c, .int .i64 v.n, .slice A4 v.ks.length cap4]; rw [World.size_alloc] at h; exact h
  rw [← hW2]
  clear hW2
  have y0 : W2.cell? ⟨w.heap.size, 0, none⟩ = some (.int .i64 t.d) := (KT.out.cell 0).trans (by simp)
  refine (spec_TypeValid xs t W2 _ F (ArrDt.below HX.out hB0 HF.out) (HF.out.mono hB0.size)).mono ?_
  rintro e w3 ⟨rfl, hb3⟩
  have hB3 := hB0.trans (hb3.mono hB0.size)
  have KV3 := Lib.hid (KV.out.same (hb3.block _ KV.out.lt))
  have KT3 := Lib.hid (KT.out.same (hb3.block _ KT.out.lt))
  clear y0
  have y0 : w3.cell? ⟨w.heap.size, 0, none⟩ = some (.int .i64 t.d) := (KT3.out.cell 0).trans (by simp)
  have y1 : w3.cell? ⟨w.heap.size, 1, none⟩ = some (.int .i64 t.i) := (KT3.out.cell 1).trans (by simp)
  have z0 : w3.cell? ⟨w.heap.size + 1, 0, none⟩ = some (.int .i64 v.c) := (KV3.out.cell 0).trans (by simp)
  have z1 : w3.cell? ⟨w.heap.size + 1, 1, none⟩ = some (.int .i64 v.n) := (KV3.out.cell 1).trans (by simp)
  have z2 : w3.cell? ⟨w.heap.size + 1, 2, none⟩ = some (.slice A4 v.ks.length cap4) := (KV3.out.cell 2).trans (by simp)
  have klt := KT3.out.lt
  have klt2 := KV3.out.lt
  clear hb3 KT KV
  cases e1 : typeValidB xs t with
  | false =>
    have hf : Hid (valueValidB xs t v = false) := by unfold Hid valueValidB; rw [e1]; rfl
    clear e1
    go_wp2
    go_ret
    exact ⟨ret_bool hf.out.symm, hB3⟩
  | true =>
    have hf : Hid (valueValidB xs t v = valueOkB xs t v) := by unfold Hid valueValidB; rw [e1]; rfl
    obtain ⟨hw, hto⟩ := typeValid_split e1
    have HW := Lib.hid hw
    have HT := Lib.hid (typeOkB_tyIn hto)
    clear e1 hw hto
    go_wp2_with fail
    refine (spec_l2Is xs t v w3 _ F _ G (ArrDt.below HX.out hB3 HF.out) (HF.out.mono hB3.size) (HV.out.below hB3 HG.out) (HG.out.mono hB3.size) HW.out HT.out hz).mono ?_
    rintro e w4 ⟨rfl, hb4⟩
    have hB4 := hB3.trans (hb4.mono hB3.size)
    generalize hbb : valueOkB xs t v = bb
    have HBB := Lib.hid hbb
    clear hbb
    go_wp2
    go_ret
    exact ⟨ret_bool (hf.out.trans HBB.out).symm, hB4⟩

set_option maxRecDepth 100000 in
set_option maxHeartbeats 1600000 in
theorem impl_ValueValid (xs : List Dt) (t : Ty) (v : V) (w : World) (x : Value) (F : List Nat) (cs : List Value) (G : List Nat) (hx : Arr w (DtR w) xs x F) (hf : Under w.heap.size F) (hv : VR w v cs G) (hg : Under w.heap.size G) (hz : v.size ≤ 1048576) :
    Calls Tryd.prog 19 #[x, .agg #[.int .i64 t.d, .int .i64 t.i], .agg cs.toArray] w fun e w' => e = .returned (.bool (valueValidB xs t v)) ∧ Below w.heap.size w w' := by
  obtain ⟨kv, rfl, ha⟩ := (VR_iff _ _ _).1 hv
  obtain ⟨A, cap, rfl, hc1, hc2⟩ := hx.form
  obtain ⟨A4, cap4, rfl, hc3, hc4⟩ := ha.form
  have HV := Lib.hid hv
  have HX := Lib.hid hx
  have HF := Lib.hid hf
  have HG := Lib.hid hg
  clear hx hf hg
  clear ha hv
  go_enter Tryd.func19, Tryd.ntmps19
  go_wp2_with fail
  obtain ⟨W2, hW2⟩ : ∃ W2, W2 = ((w.alloc (.cells #[.int .i64 t.d, .int .i64 t.i] 33)).alloc (.cells #[.int .i64 v.c, .int .i64 v.n, .slice A4 v.ks.length cap4] 37)) := ⟨_, rfl⟩
  have hB0 : Below w.heap.size w W2 := by rw [hW2]; exact ((Below.refl _ _).alloc (Nat.le_refl _) _).alloc (by simp) _
  have KT : Hid (Blk W2 w.heap.size 33 #[.int .i64 t.d, .int .i64 t.i]) := by rw [hW2]; exact (Blk.new w _ _).same (Below.heap_alloc _ _ _ (by simp))
  have KV : Hid (Blk W2 (w.heap.size + 1) 37 #[.int .i64 v.c, .int .i64 v.n, .slice A4 v.ks.length cap4]) := by rw [hW2]; have h := Blk.new (w.alloc (.cells #[.int .i64 t.d, .int .i64 t.i] 33)) 37 #[.int .i64 v.c, .int .i64 v.n, .slice A4 v.ks.length cap4]; rw [World.size_alloc] at h; exact h
  rw [← hW2]
  clear hW2
  have y0 : W2.cell? ⟨w.heap.size, 0, none⟩ = some (.int .i64 t.d) := (KT.out.cell 0).trans (by simp)
  refine (impl_TypeValid xs t W2 _ F (ArrDt.below HX.out hB0 HF.out) (HF.out.mono hB0.size)).mono ?_
  rintro e w3 ⟨rfl, hb3⟩
  have hB3 := hB0.trans (hb3.mono hB0.size)
  have KV3 := Lib.hid (KV.out.same (hb3.block _ KV.out.lt))
  have KT3 := Lib.hid (KT.out.same (hb3.block _ KT.out.lt))
  clear y0
  have y0 : w3.cell? ⟨w.heap.size, 0, none⟩ = some (.int .i64 t.d) := (KT3.out.cell 0).trans (by simp)
  have y1 : w3.cell? ⟨w.heap.size, 1, none⟩ = some (.int .i64 t.i) := (KT3.out.cell 1).trans (by simp)
  have z0 : w3.cell? ⟨w.heap.size + 1, 0, none⟩ = some (.int .i64 v.c) := (KV3.out.cell 0).trans (by simp)
  have z1 : w3.cell? ⟨w.heap.size + 1, 1, none⟩ = some (.int .i64 v.n) := (KV3.out.cell 1).trans (by simp)
  have z2 : w3.cell? ⟨w.heap.size + 1, 2, none⟩ = some (.slice A4 v.ks.length cap4) := (KV3.out.cell 2).trans (by simp)
  have klt := KT3.out.lt
  have klt2 := KV3.out.lt
  clear hb3 KT KV
  cases e1 : typeValidB xs t with
  | false =>
    have hf : Hid (valueValidB xs t v = false) := by unfold Hid valueValidB; rw [e1]; rfl
    clear e1
    go_wp2
    go_ret
    exact ⟨ret_bool hf.out.symm, hB3⟩
  | true =>
    have hf : Hid (valueValidB xs t v = valueOkB xs t v) := by unfold Hid valueValidB; rw [e1]; rfl
    obtain ⟨hw, hto⟩ := typeValid_split e1
    have HW := Lib.hid hw
    have HT := Lib.hid (typeOkB_tyIn hto)
    clear e1 hw hto
    go_wp2_with fail
    refine (impl_valueOk xs t v w3 _ F _ G (ArrDt.below HX.out hB3 HF.out) (HF.out.mono hB3.size) (HV.out.below hB3 HG.out) (HG.out.mono hB3.size) HW.out HT.out hz).mono ?_
    rintro e w4 ⟨rfl, hb4⟩
    have hB4 := hB3.trans (hb4.mono hB3.size)
    generalize hbb : valueOkB xs t v = bb
    have HBB := Lib.hid hbb
    clear hbb
    go_wp2
    go_ret
    exact ⟨ret_bool (hf.out.trans HBB.out).symm, hB4⟩
end Go.Proofs.YtlkkfbkghodncaaDoor

namespace Go.Proofs.YtlkkfbkghodncaaDoor
open Go.RowKit

def ctorN (xs : List Dt) (t : Ty) (k : Int) : List UInt8 := match ctorAt xs t k with | some c => tl c.name | none => []
theorem ctorN_get {xs : List Dt} {d k : Nat} {i : Int} (hd : d < xs.length) (hk : k < xs[d].ctors.length) : ctorN xs ⟨(d : Int), i⟩ (k : Int) = tl xs[d].ctors[k].name := by
  unfold ctorN ctorAt
  simp only
  rw [ctorsAt_get hd, Int.toNat_natCast, List.getElem?_eq_getElem hk]
def lst : Bool → List (List UInt8) → List UInt8
  | _, [] => []
  | b, a :: l => (if b = true then 40 else 44) :: (a ++ lst false l)
def closeL (n : Nat) : List UInt8 := if 0 < n then [41] else []
theorem lst_join (a : List UInt8) (l : List (List UInt8)) : lst true (a :: l) = 40 :: Lib.join (a :: l) [44] := by
  have h := join_of id (fun b l => if b = true then (match l with | [] => [] | x :: l => x ++ lst false l) else lst false l) 44 (fun b => by cases b <;> rfl) (fun x l => rfl) (fun x l => rfl) (a :: l)
  rw [List.map_id] at h
  rw [h]; rfl
theorem listedT_lst (l : List (List UInt8)) : listedT (l.map bs) = lst true l ++ closeL l.length := by
  unfold listedT closeL
  cases hl : l with
  | nil => rfl
  | cons a l =>
    have e : ((a :: l).map bs).map tl = a :: l := by rw [List.map_map]; exact (List.map_congr_left (fun x _ => tl_bs x)).trans (List.map_id _)
    rw [if_neg (by simp), if_pos (by simp), e, lst_join]
    rfl
theorem lst_step {f : Ty → V → List UInt8} {ls : List Ty} {ks : List V} {i : Nat} (b : Bool) (h1 : i < ls.length) (h2 : i < ks.length) : lst b (List.zipWith f (ls.drop i) (ks.drop i)) = (if b = true then 40 else 44) :: (f ls[i] ks[i] ++ lst false (List.zipWith f (ls.drop (i + 1)) (ks.drop (i + 1)))) := by
  rw [List.drop_eq_getElem_cons h1, List.drop_eq_getElem_cons h2, List.zipWith_cons_cons, lst]
theorem zipAll_get {f : Ty → V → Bool} : ∀ {ls : List Ty} {ks : List V}, zipAll f ls ks = true → ∀ (i : Nat) (h1 : i < ls.length) (h2 : i < ks.length), f ls[i] ks[i] = true
  | _ :: _, _ :: _, h, 0, _, _ => by rw [zipAll, Bool.and_eq_true] at h; exact h.1
  | _ :: ls, _ :: ks, h, i + 1, h1, h2 => by
    rw [zipAll, Bool.and_eq_true] at h
    exact zipAll_get h.2 i (by simpa using h1) (by simpa using h2)
theorem lst_zip_len {f : Ty → V → List UInt8} {g : Ty → V → Bool} (m : Nat) : ∀ (ls : List Ty) (ks : List V) (b : Bool), (∀ a ∈ ls, ∀ k, g a k = true → (f a k).length + 1 ≤ m * nodes k) → zipAll g ls ks = true → (lst b (List.zipWith f ls ks)).length ≤ m * V.sizes ks
  | [], ks, b, _, _ => by simp [lst]
  | _ :: _, [], b, _, _ => by simp [lst]
  | a :: ls, k :: ks, b, h, hz => by
    rw [zipAll, Bool.and_eq_true] at hz
    have h1 := h a (by simp) k hz.1
    have h2 := lst_zip_len m ls ks false (fun x hx => h x (by simp [hx])) hz.2
    have h3 : V.sizes (k :: ks) = nodes k + V.sizes ks := by simp [V.sizes, nodes]
    rw [h3, Nat.mul_add, List.zipWith_cons_cons, lst, List.length_cons, List.length_append]
    omega
/-- the text of a value -/
def vT (xs : List Dt) : Nat → Ty → V → List UInt8
  | 0, _, _ => []
  | d + 1, t, v => if t.d = -1 then digT v.n else ctorN xs t v.c ++ (lst true (List.zipWith (vT xs d) (argsOf xs t v.c) v.ks) ++ closeL (argsOf xs t v.c).length)
theorem vT_int {xs : List Dt} {d : Nat} {t : Ty} {v : V} (h : t.d = -1) : vT xs (d + 1) t v = digT v.n := by rw [vT, if_pos h]
theorem vT_data {xs : List Dt} {d : Nat} {t : Ty} {v : V} (h : ¬ t.d = -1) : vT xs (d + 1) t v = ctorN xs t v.c ++ (lst true (List.zipWith (vT xs d) (argsOf xs t v.c) v.ks) ++ closeL (argsOf xs t v.c).length) := by rw [vT, if_neg h]
theorem closeL_len (n : Nat) : (closeL n).length ≤ 1 := by unfold closeL; split <;> simp
/-- what stands of a value that fits a data type -/
theorem fits_parts {xs : List Dt} {d q r : Nat} {v : V} (hq : q < xs.length) (h : fitsV xs (d + 1) ⟨(q : Int), (r : Int)⟩ v = true) :
    ∃ k : Nat, v.c = (k : Int) ∧ ∃ hk : k < xs[q].ctors.length, hasB (ctorsL xs ⟨(q : Int), (r : Int)⟩) v.c = true ∧ v.ks.length = (argsL xs[q].ctors[k] (r : Int)).length ∧ zipAll (fitsV xs d) (argsL xs[q].ctors[k] (r : Int)) v.ks = true := by
  rw [fitsV_data (by show ¬ ((q : Int) = -1); omega), Bool.and_eq_true, Bool.and_eq_true, Bool.and_eq_true] at h
  obtain ⟨-, h1, h2, h3⟩ := h
  obtain ⟨q', k, e2, hvc, hq', hkl⟩ := mem_ctorsL (xs := xs) (t := ⟨(q : Int), (r : Int)⟩) (.inr ⟨q, rfl, hq⟩) ((hasB_iff _ _).1 h1)
  obtain rfl : q = q' := Int.ofNat.inj e2
  rw [hvc, argsOf_get hq hkl] at h2 h3
  exact ⟨k, hvc, hkl, h1, of_decide_eq_true h2, h3⟩
theorem vT_len {xs : List Dt} (hw : WorldOK xs) : ∀ (d : Nat) (t : Ty) (v : V), TyIn xs.length t → fitsV xs d t v = true → (vT xs d t v).length + 1 ≤ 8 * nodes v
  | 0, t, v, _, h => by rw [fitsV] at h; cases h
  | d + 1, t, v, ht, h => by
    rcases ht with ht | ⟨q, r, rfl, hql, hrl⟩
    · rw [vT_int ht, digT_len]; unfold nodes; omega
    · obtain ⟨k, hvc, hkl, h1, h2, h3⟩ := fits_parts hql h
      rw [vT_data (by show ¬ ((q : Int) = -1); omega), hvc, argsOf_get hql hkl, ctorN_get hql hkl]
      have h4 := lst_zip_len (f := vT xs d) 8 (argsL xs[q].ctors[k] (r : Int)) v.ks true (fun a ha k hk => vT_len hw d a k (argTy_in (hw.ctor hql hkl) (by omega) (by omega) ha) hk) h3
      have h5 := nameOk_len (hw.ctor hql hkl).name
      have h6 : (tl xs[q].ctors[k].name).length = xs[q].ctors[k].name.size := rfl
      have h7 := closeL_len (argsL xs[q].ctors[k] (r : Int)).length
      rw [nodes_ks, List.length_append, List.length_append]
      omega
/-- the text of a value, empty where it is none -/
def fmtV (xs : List Dt) (t : Ty) (v : V) : ByteArray := if valueValidB xs t v = true then bs (vT xs 10 t v) else ⟨#[]⟩
theorem valid_parts {xs : List Dt} {t : Ty} {v : V} (h : valueValidB xs t v = true) : WorldOK xs ∧ TyIn xs.length t ∧ fitsV xs 10 t v = true ∧ nodes v ≤ 60 := by
  unfold valueValidB valueOkB at h
  rw [Bool.and_eq_true, Bool.and_eq_true] at h
  obtain ⟨hw, hto⟩ := typeValid_split h.1
  exact ⟨hw, typeOkB_tyIn hto, h.2.1, of_decide_eq_true h.2.2⟩
end Go.Proofs.YtlkkfbkghodncaaDoor

namespace Go.Proofs.YtlkkfbkghodncaaDoor
open Go.RowKit

/-- contract of l2Text at one value -/
def TxtS (v : V) : Prop := ∀ (xs : List Dt) (_ : WorldOK xs) (d : Nat) (_ : d ≤ 10) (t : Ty) (_ : TyIn xs.length t) (_ : fitsV xs d t v = true) (_ : nodes v ≤ 60) (w : World) (x : Value) (F : List Nat) (cs : List Value) (G : List Nat), Arr w (DtR w) xs x F → Under w.heap.size F → VR w v cs G → Under w.heap.size G →
  Calls Tryd.prog 16 #[x, .agg #[.int .i64 t.d, .int .i64 t.i], .agg cs.toArray] w fun e w' => e = .returned (.string (bs (vT xs d t v))) ∧ Below w.heap.size w w'
theorem nodes_kid {v : V} {k : V} (h : k ∈ v.ks) : nodes k ≤ nodes v := by
  obtain ⟨i, hi, rfl⟩ := List.getElem_of_mem h
  have h1 := sizes_step hi
  have h2 := sizes_take_le v.ks (i + 1)
  rw [nodes_ks v]
  omega
set_option maxRecDepth 100000 in
set_option maxHeartbeats 8000000 in
theorem l2Text_of (v : V) (ih : ∀ k ∈ v.ks, TxtS k) : TxtS v := by
  intro xs hw d hd t ht hfit hn60 w x F cs G hx hf hv hg
  obtain ⟨kv, rfl, ha⟩ := (VR_iff _ _ _).1 hv
  obtain ⟨A, cap, rfl, hc1, hc2⟩ := hx.form
  obtain ⟨A4, cap4, rfl, hc3, hc4⟩ := ha.form
  have hlen := vT_len hw d t v ht hfit
  have HKN : Hid (∀ k ∈ v.ks, nodes k ≤ 60) := fun k hk => Nat.le_trans (nodes_kid hk) hn60
  have HW := Lib.hid hw
  have IH := Lib.hid ih
  have HX := Lib.hid hx
  have HF := Lib.hid hf
  have HA := Lib.hid ha
  have HG := Lib.hid hg
  clear hx hf ha hg
  clear hw ih hv
  cases d with
  | zero => rw [fitsV] at hfit; cases hfit
  | succ d =>
  rcases ht with ht | ⟨q, r, rfl, hql, hrl⟩
  · have t0 : (t.d == -1) = true := by simp [ht]
    have hB0 : Below w.heap.size w ((w.alloc (.cells #[.int .i64 t.d, .int .i64 t.i] 33)).alloc (.cells #[.int .i64 v.c, .int .i64 v.n, .slice A4 v.ks.length cap4] 37)) := ((Below.refl _ _).alloc (Nat.le_refl _) _).alloc (by simp) _
    rw [fitsV_int ht] at hfit
    unfold isNum at hfit
    rw [Bool.and_eq_true, Bool.and_eq_true] at hfit
    have hq := (withinB_iff _ _ _).1 hfit.2.1
    have hf : Hid (bs (vT xs (d + 1) t v) = bs (digT v.n)) := by unfold Hid; rw [vT_int ht]
    clear hfit hlen hn60 ht
    go_enter Tryd.func16, Tryd.ntmps16
    go_wp2_with fail
    refine (spec_l17Dec v.n hq.1 hq.2 _).mono ?_
    rintro e w' ⟨rfl, hB'⟩
    have hB1 := hB0.trans (hB'.mono hB0.size)
    go_wp2
    go_ret
    exact ⟨ret_str hf.out.symm, hB1⟩
  · have t0 : ((q : Int) == -1) = false := by rw [beq_eq_false_iff_ne]; omega
    obtain ⟨k, hvc, hkl, h1, h2, h3⟩ := fits_parts hql hfit
    have hvt := vT_data (xs := xs) (d := d) (v := v) (t := ⟨(q : Int), (r : Int)⟩) (by show ¬ ((q : Int) = -1); omega)
    rw [hvc, argsOf_get hql hkl, ctorN_get hql hkl] at hvt
    have HVT := Lib.hid hvt
    have HAI := Lib.hid (fun a ha => argTy_in (HW.out.ctor hql hkl) (i := (r : Int)) (by omega) (by omega) (a := a) ha)
    have HLA := Lib.hid (HW.out.ctor hql hkl).args
    have HZA := Lib.hid (fun i h1 h2 => zipAll_get h3 i h1 h2)
    have HLN := Lib.hid h2
    have HVC := Lib.hid hvc
    have hn5 := nameOk_len (HW.out.ctor hql hkl).name
    have HL5 := Lib.hid hlen
    have HN60 := Lib.hid hn60
    clear hfit h1 h2 h3 hvt hvc hlen hn60
    obtain ⟨b, off, rfl⟩ := HX.out.ptr (by omega)
    have hB0 : Below w.heap.size w ((w.alloc (.cells #[.int .i64 (q : Int), .int .i64 (r : Int)] 33)).alloc (.cells #[.int .i64 v.c, .int .i64 v.n, .slice A4 v.ks.length cap4] 37)) := ((Below.refl _ _).alloc (Nat.le_refl _) _).alloc (by simp) _
    obtain ⟨A1, cap1, G1, hb, c0, c1, HK, HG1, hs, hn1, hn2⟩ := ArrDt.at HX.out HF.out hB0 q hql
    obtain ⟨b3, off3, rfl⟩ := HK.out.ptr (by omega)
    obtain ⟨A9, cap9, G9, hb9, p0, p1, p2, HT9, HTG9, hnm9, hc93, hc94⟩ := ArrKt.at HK.out HG1.out hB0 k hkl
    have g1 : (0 : Int) ≤ (q : Int) := by omega
    have g2 : (q : Int) < (xs.length : Int) := by omega
    have g3 : (0 : Int) ≤ (k : Int) := by omega
    have g4 : (k : Int) < (xs[q].ctors.length : Int) := by omega
    have KT : Hid (Blk ((w.alloc (.cells #[.int .i64 (q : Int), .int .i64 (r : Int)] 33)).alloc (.cells #[.int .i64 v.c, .int .i64 v.n, .slice A4 v.ks.length cap4] 37)) w.heap.size 33 #[.int .i64 (q : Int), .int .i64 (r : Int)]) := (Blk.new w _ _).same (Below.heap_alloc _ _ _ (by simp))
    have KV : Hid (Blk ((w.alloc (.cells #[.int .i64 (q : Int), .int .i64 (r : Int)] 33)).alloc (.cells #[.int .i64 v.c, .int .i64 v.n, .slice A4 v.ks.length cap4] 37)) (w.heap.size + 1) 37 #[.int .i64 v.c, .int .i64 v.n, .slice A4 v.ks.length cap4]) := by have h := Blk.new (w.alloc (.cells #[.int .i64 (q : Int), .int .i64 (r : Int)] 33)) 37 #[.int .i64 v.c, .int .i64 v.n, .slice A4 v.ks.length cap4]; rw [World.size_alloc] at h; exact h
    go_enter Tryd.func16, Tryd.ntmps16
    go_wp2_with fail
    obtain ⟨W2, hW2⟩ : ∃ W2, W2 = ((w.alloc (.cells #[.int .i64 (q : Int), .int .i64 (r : Int)] 33)).alloc (.cells #[.int .i64 v.c, .int .i64 v.n, .slice A4 v.ks.length cap4] 37)) := ⟨_, rfl⟩
    rw [← hW2] at hB0 c0 c1 hb hb9 p0 p1 p2 KV KT ⊢
    clear hW2
    have y0 : W2.cell? ⟨w.heap.size, 0, none⟩ = some (.int .i64 (q : Int)) := (KT.out.cell 0).trans (by simp)
    have y1 : W2.cell? ⟨w.heap.size, 1, none⟩ = some (.int .i64 (r : Int)) := (KT.out.cell 1).trans (by simp)
    have x0 : W2.cell? ⟨w.heap.size + 1, 0, none⟩ = some (.int .i64 (k : Int)) := (KV.out.cell 0).trans (by simp [HVC.out])
    have klt := KT.out.lt
    have klt2 := KV.out.lt
    have HBQ := Lib.hid (fun n => below_drewN hB0 n)
    go_quiet (fail)
    obtain ⟨w5, hw5⟩ : ∃ X, X = W2.drewN nq := ⟨_, rfl⟩
    have hB5 : Below w.heap.size w w5 := by rw [hw5]; exact HBQ.out nq
    have KT5 : Hid (Blk w5 w.heap.size 33 #[.int .i64 (q : Int), .int .i64 (r : Int)]) := by rw [hw5]; exact KT.out
    have KV5 : Hid (Blk w5 (w.heap.size + 1) 37 #[.int .i64 v.c, .int .i64 v.n, .slice A4 v.ks.length cap4]) := by rw [hw5]; exact KV.out
    rw [← hw5]
    clear hw5 KT KV y0 y1 x0 klt klt2 hb9 p0 p1 p2 hb c0 c1 HBQ
    have y0 : w5.cell? ⟨w.heap.size, 0, none⟩ = some (.int .i64 (q : Int)) := (KT5.out.cell 0).trans (by simp)
    have y1 : w5.cell? ⟨w.heap.size, 1, none⟩ = some (.int .i64 (r : Int)) := (KT5.out.cell 1).trans (by simp)
    have x0 : w5.cell? ⟨w.heap.size + 1, 0, none⟩ = some (.int .i64 (k : Int)) := (KV5.out.cell 0).trans (by simp [HVC.out])
    have klt := KT5.out.lt
    have klt2 := KV5.out.lt
    go_wp2_with fail
    refine (spec_l1Args xs q k (r : Int) hql hkl _ _ F (ArrDt.below HX.out hB5 HF.out) (HF.out.mono hB5.size) HLA.out).mono ?_
    rintro e w6 ⟨v6, F6, rfl, hb6, ha6, -, hfs6⟩
    have hB6 := hB5.trans (hb6.mono hB5.size)
    have KV6 := Lib.hid (KV5.out.same (hb6.block _ KV5.out.lt))
    generalize hass : argsL xs[q].ctors[k] (r : Int) = ls at *
    clear hass
    obtain ⟨A6, cap6, rfl, hd3, hd4⟩ := ha6.form
    have HA6 := Lib.hid ha6
    have HU6 := Lib.hid hfs6.under
    clear ha6 hfs6 hb6 KT5 KV5 y0 y1 x0 klt klt2 hB0 hB5 g1 g2 g3 g4 hs hn1 hn2 hnm9 hc93 hc94
    obtain ⟨nm, hnm⟩ : ∃ nm, nm = xs[q].ctors[k].name := ⟨_, rfl⟩
    rw [← hnm] at HVT hn5 ⊢
    clear hnm
    have HR0 : Hid (vT xs (d + 1) ⟨(q : Int), (r : Int)⟩ v = tl nm ++ (lst (decide (0 = 0)) (List.zipWith (vT xs d) (ls.drop 0) (v.ks.drop 0)) ++ closeL ls.length)) := HVT.out
    go_wp2
    go_loopw [7, 9] (fun ov iv wr => ∃ i : Nat, ∃ out : ByteArray, i ≤ ls.length ∧ iv = .int .i64 i ∧ ov = .string out ∧ Hid (vT xs (d + 1) ⟨(q : Int), (r : Int)⟩ v = tl out ++ (lst (decide (i = 0)) (List.zipWith (vT xs d) (ls.drop i) (v.ks.drop i)) ++ closeL ls.length)) ∧ Hid (Blk wr (w.heap.size + 1) 37 #[.int .i64 v.c, .int .i64 v.n, .slice A4 v.ks.length cap4]) ∧ Below w.heap.size w wr ∧ Hid (Below w6.heap.size w6 wr)) (fun _ iv _ => ls.length - (intOf iv).toNat)
    case atStart => exact ⟨0, nm, Nat.zero_le _, rfl, rfl, HR0, KV6, hB6, Below.refl _ _⟩
    case round =>
      clear hB6
      obtain ⟨i, out, hi, rfl, rfl, HR, KV, hB, HB6⟩ := hrel
      have hos : out.size ≤ 480 := by
        have h1 := congrArg List.length HR.out
        have h2 := HL5.out
        have h3 := HN60.out
        rw [List.length_append] at h1
        have h4 : (tl out).length = out.size := rfl
        omega
      by_cases hil : i < ls.length
      · have hik : i < v.ks.length := by rw [HLN.out]; exact hil
        obtain ⟨b6, off6, rfl⟩ := HA6.out.ptr (by omega)
        obtain ⟨hb6, a0, a1⟩ := ArrTy.at HA6.out HU6.out HB6.out i hil
        obtain ⟨b4, off4, rfl⟩ := HA.out.ptr (by omega)
        obtain ⟨A7, cap7, G7, hb7, k0, k1, k2, HV7, HG7, -, -, -⟩ := ArrV.at HA.out HG.out hB i hik
        have z2 : wr.cell? ⟨w.heap.size + 1, 2, none⟩ = some (.slice (some ⟨b4, off4, none⟩) v.ks.length cap4) := (KV.out.cell 2).trans (by simp)
        have klt2 := KV.out.lt
        have g1 : (0 : Int) ≤ (i : Int) := by omega
        have g2 : (i : Int) < (ls.length : Int) := by omega
        have g3 : (i : Int) < (v.ks.length : Int) := by omega
        have hst := HR.out
        rw [lst_step _ hil hik] at hst
        have HFI : Hid (fitsV xs d ls[i] v.ks[i] = true) := HZA.out i hil hik
        have HNI : Hid (nodes v.ks[i] ≤ 60) := HKN.out _ (List.getElem_mem hik)
        have HTI := Lib.hid (HAI.out _ (List.getElem_mem hil))
        have HCALL := Lib.hid (IH.out v.ks[i] (List.getElem_mem hik) xs HW.out d (by omega) ls[i] HTI.out HFI.out HNI.out wr.drew _ F _ G7 (ArrDt.below HX.out hB.drew HF.out) (HF.out.mono hB.drew.size) (HV7.out.below hB.drew HG7.out) (HG7.out.mono hB.drew.size))
        have hzs : (bs (vT xs d ls[i] v.ks[i])).size ≤ 480 := by
          have h1 := vT_len HW.out d ls[i] v.ks[i] HTI.out HFI.out
          have h2 := HNI.out
          rw [bs_size]; omega
        obtain ⟨Z, hZ⟩ : ∃ z, bs (vT xs d ls[i] v.ks[i]) = z := ⟨_, rfl⟩
        rw [hZ] at hzs
        have HZ := Lib.hid hZ
        have HZV : Hid (vT xs d ls[i] v.ks[i] = tl Z) := by rw [← HZ.out]; rfl
        rw [HZV.out] at hst
        clear hZ
        have hcat0 : out.size + 1 ≤ 9223372036854775807 := by omega
        have hcat1 : out.size + 1 + Z.size ≤ 9223372036854775807 := by omega
        have hcat2 : ¬ 9223372036854775807 < out.size + 1 := by omega
        have hcat3 : ¬ 9223372036854775807 < out.size + 1 + Z.size := by omega
        clear hzs hos
        cases q3 : ((i : Int) == 0) with
        | true =>
          have hi0 : decide (i = 0) = true := by
            rw [beq_iff_eq] at q3; exact decide_eq_true (by omega)
          rw [hi0] at hst
          have hst2 : vT xs (d + 1) ⟨(q : Int), (r : Int)⟩ v = tl ((out ++ ⟨#[40]⟩) ++ Z) ++ (lst (decide (i + 1 = 0)) (List.zipWith (vT xs d) (ls.drop (i + 1)) (v.ks.drop (i + 1))) ++ closeL ls.length) := by
            rw [hst, tl_append, tl_append, ← HZ.out, tl_bs, decide_eq_false (show ¬ (i + 1 = 0) by omega)]
            show tl out ++ ((40 :: _) ++ _) = _
            simp [tl]
          have HST := Lib.hid hst2
          clear hst hst2 hi0
          go_wp2_with fail
          have hkeep : ∀ U U' : World, (U.cell? ⟨b6, off6 + i * 2, none⟩ = some (.int .i64 ls[i].d) ∧ U.cell? ⟨b6, off6 + i * 2 + 1, none⟩ = some (.int .i64 ls[i].i) ∧ U.cell? ⟨w.heap.size + 1, 2, none⟩ = some (.slice (some ⟨b4, off4, none⟩) v.ks.length cap4) ∧ U.cell? ⟨b4, off4 + i * 3, none⟩ = some (.int .i64 v.ks[i].c) ∧ U.cell? ⟨b4, off4 + i * 3 + 1, none⟩ = some (.int .i64 v.ks[i].n) ∧ U.cell? ⟨b4, off4 + i * 3 + 2, none⟩ = some (.slice A7 v.ks[i].ks.length cap7)) → Below U.heap.size U U' → wr.heap.size ≤ U.heap.size → (U'.cell? ⟨b6, off6 + i * 2, none⟩ = some (.int .i64 ls[i].d) ∧ U'.cell? ⟨b6, off6 + i * 2 + 1, none⟩ = some (.int .i64 ls[i].i) ∧ U'.cell? ⟨w.heap.size + 1, 2, none⟩ = some (.slice (some ⟨b4, off4, none⟩) v.ks.length cap4) ∧ U'.cell? ⟨b4, off4 + i * 3, none⟩ = some (.int .i64 v.ks[i].c) ∧ U'.cell? ⟨b4, off4 + i * 3 + 1, none⟩ = some (.int .i64 v.ks[i].n) ∧ U'.cell? ⟨b4, off4 + i * 3 + 2, none⟩ = some (.slice A7 v.ks[i].ks.length cap7)) := fun U U' h hUU hU => ⟨(hUU.cell (Nat.lt_of_lt_of_le (hb6) hU)).trans h.1, (hUU.cell (Nat.lt_of_lt_of_le (hb6) hU)).trans h.2.1, (hUU.cell (Nat.lt_of_lt_of_le (klt2) hU)).trans h.2.2.1, (hUU.cell (Nat.lt_of_lt_of_le (hb7) hU)).trans h.2.2.2.1, (hUU.cell (Nat.lt_of_lt_of_le (hb7) hU)).trans h.2.2.2.2.1, (hUU.cell (Nat.lt_of_lt_of_le (hb7) hU)).trans h.2.2.2.2.2⟩
          have HKeep := Lib.hid hkeep
          clear hkeep
          go_region_held3 (fun w' => w'.cell? ⟨b6, off6 + i * 2, none⟩ = some (.int .i64 ls[i].d) ∧ w'.cell? ⟨b6, off6 + i * 2 + 1, none⟩ = some (.int .i64 ls[i].i) ∧ w'.cell? ⟨w.heap.size + 1, 2, none⟩ = some (.slice (some ⟨b4, off4, none⟩) v.ks.length cap4) ∧ w'.cell? ⟨b4, off4 + i * 3, none⟩ = some (.int .i64 v.ks[i].c) ∧ w'.cell? ⟨b4, off4 + i * 3 + 1, none⟩ = some (.int .i64 v.ks[i].n) ∧ w'.cell? ⟨b4, off4 + i * 3 + 2, none⟩ = some (.slice A7 v.ks[i].ks.length cap7)) (first | assumption | (exact ⟨a0, a1, z2, k0, k1, k2⟩) | (exact HKeep.out wr.drew w' ⟨a0, a1, z2, k0, k1, k2⟩ hB' (Nat.le_refl _))) (first | (go_at_call 16; ((with_reducible refine HCALL.out.mono ?_); rintro e w' ⟨rfl, hB'⟩; rw [HZ.out])))
          have hB3 := hB.drew.trans (hB'.mono hB.size)
          have HB3 := Lib.hid (HB6.out.drew.trans (hB'.mono HB6.out.size))
          have KV3 := Lib.hid (KV.out.same (hB'.block _ KV.out.lt))
          clear HKeep
          go_wp2
          go_roundw
          case rel => exact ⟨i + 1, _, by omega, by go_num, rfl, HST, KV3, hB3, HB3⟩
          case measure => (simp [intOf] <;> omega)
        | false =>
          have hi0 : decide (i = 0) = false := by
            rw [beq_eq_false_iff_ne] at q3; exact decide_eq_false (by omega)
          rw [hi0] at hst
          have hst2 : vT xs (d + 1) ⟨(q : Int), (r : Int)⟩ v = tl ((out ++ ⟨#[44]⟩) ++ Z) ++ (lst (decide (i + 1 = 0)) (List.zipWith (vT xs d) (ls.drop (i + 1)) (v.ks.drop (i + 1))) ++ closeL ls.length) := by
            rw [hst, tl_append, tl_append, ← HZ.out, tl_bs, decide_eq_false (show ¬ (i + 1 = 0) by omega)]
            show tl out ++ ((44 :: _) ++ _) = _
            simp [tl]
          have HST := Lib.hid hst2
          clear hst hst2 hi0
          go_wp2_with fail
          have hkeep : ∀ U U' : World, (U.cell? ⟨b6, off6 + i * 2, none⟩ = some (.int .i64 ls[i].d) ∧ U.cell? ⟨b6, off6 + i * 2 + 1, none⟩ = some (.int .i64 ls[i].i) ∧ U.cell? ⟨w.heap.size + 1, 2, none⟩ = some (.slice (some ⟨b4, off4, none⟩) v.ks.length cap4) ∧ U.cell? ⟨b4, off4 + i * 3, none⟩ = some (.int .i64 v.ks[i].c) ∧ U.cell? ⟨b4, off4 + i * 3 + 1, none⟩ = some (.int .i64 v.ks[i].n) ∧ U.cell? ⟨b4, off4 + i * 3 + 2, none⟩ = some (.slice A7 v.ks[i].ks.length cap7)) → Below U.heap.size U U' → wr.heap.size ≤ U.heap.size → (U'.cell? ⟨b6, off6 + i * 2, none⟩ = some (.int .i64 ls[i].d) ∧ U'.cell? ⟨b6, off6 + i * 2 + 1, none⟩ = some (.int .i64 ls[i].i) ∧ U'.cell? ⟨w.heap.size + 1, 2, none⟩ = some (.slice (some ⟨b4, off4, none⟩) v.ks.length cap4) ∧ U'.cell? ⟨b4, off4 + i * 3, none⟩ = some (.int .i64 v.ks[i].c) ∧ U'.cell? ⟨b4, off4 + i * 3 + 1, none⟩ = some (.int .i64 v.ks[i].n) ∧ U'.cell? ⟨b4, off4 + i * 3 + 2, none⟩ = some (.slice A7 v.ks[i].ks.length cap7)) := fun U U' h hUU hU => ⟨(hUU.cell (Nat.lt_of_lt_of_le (hb6) hU)).trans h.1, (hUU.cell (Nat.lt_of_lt_of_le (hb6) hU)).trans h.2.1, (hUU.cell (Nat.lt_of_lt_of_le (klt2) hU)).trans h.2.2.1, (hUU.cell (Nat.lt_of_lt_of_le (hb7) hU)).trans h.2.2.2.1, (hUU.cell (Nat.lt_of_lt_of_le (hb7) hU)).trans h.2.2.2.2.1, (hUU.cell (Nat.lt_of_lt_of_le (hb7) hU)).trans h.2.2.2.2.2⟩
          have HKeep := Lib.hid hkeep
          clear hkeep
          go_region_held3 (fun w' => w'.cell? ⟨b6, off6 + i * 2, none⟩ = some (.int .i64 ls[i].d) ∧ w'.cell? ⟨b6, off6 + i * 2 + 1, none⟩ = some (.int .i64 ls[i].i) ∧ w'.cell? ⟨w.heap.size + 1, 2, none⟩ = some (.slice (some ⟨b4, off4, none⟩) v.ks.length cap4) ∧ w'.cell? ⟨b4, off4 + i * 3, none⟩ = some (.int .i64 v.ks[i].c) ∧ w'.cell? ⟨b4, off4 + i * 3 + 1, none⟩ = some (.int .i64 v.ks[i].n) ∧ w'.cell? ⟨b4, off4 + i * 3 + 2, none⟩ = some (.slice A7 v.ks[i].ks.length cap7)) (first | assumption | (exact ⟨a0, a1, z2, k0, k1, k2⟩) | (exact HKeep.out wr.drew w' ⟨a0, a1, z2, k0, k1, k2⟩ hB' (Nat.le_refl _))) (first | (go_at_call 16; ((with_reducible refine HCALL.out.mono ?_); rintro e w' ⟨rfl, hB'⟩; rw [HZ.out])))
          have hB3 := hB.drew.trans (hB'.mono hB.size)
          have HB3 := Lib.hid (HB6.out.drew.trans (hB'.mono HB6.out.size))
          have KV3 := Lib.hid (KV.out.same (hB'.block _ KV.out.lt))
          clear HKeep
          go_wp2
          go_roundw
          case rel => exact ⟨i + 1, _, by omega, by go_num, rfl, HST, KV3, hB3, HB3⟩
          case measure => (simp [intOf] <;> omega)
      · have hte := HR.out
        rw [List.drop_of_length_le (by omega), show ∀ l, List.zipWith (vT xs d) [] l = [] from fun l => by cases l <;> rfl, lst, List.nil_append] at hte
        have HTE := Lib.hid hte
        clear hte
        have c1 : out.size + 1 ≤ 9223372036854775807 := by omega
        have c2 : ¬ 9223372036854775807 < out.size + 1 := by omega
        by_cases hp : 0 < ls.length
        · have t5 : decide ((ls.length : Int) > 0) = true := decide_eq_true (by omega)
          have t6 : decide (0 < ls.length) = true := decide_eq_true hp
          have hf : Hid (bs (vT xs (d + 1) ⟨(q : Int), (r : Int)⟩ v) = out ++ ⟨#[41]⟩) := by
            unfold Hid; rw [HTE.out, closeL, if_pos hp, ← bs_append, bs_tl]; rfl
          go_wp2
          go_ret
          exact ⟨ret_str hf.out.symm, hB⟩
        · have t5 : decide ((ls.length : Int) > 0) = false := decide_eq_false (by omega)
          have t6 : decide (0 < ls.length) = false := decide_eq_false hp
          have hf : Hid (bs (vT xs (d + 1) ⟨(q : Int), (r : Int)⟩ v) = out) := by
            unfold Hid; rw [HTE.out, closeL, if_neg hp, List.append_nil, bs_tl]
          go_wp2
          go_ret
          exact ⟨ret_str hf.out.symm, hB⟩
theorem spec_l2Text : ∀ v, TxtS v := V.indv l2Text_of
set_option maxRecDepth 100000 in
set_option maxHeartbeats 1600000 in
theorem spec_FormatValue (xs : List Dt) (t : Ty) (v : V) (w : World) (x : Value) (F : List Nat) (cs : List Value) (G : List Nat) (hx : Arr w (DtR w) xs x F) (hf : Under w.heap.size F) (hv : VR w v cs G) (hg : Under w.heap.size G) (hz : v.size ≤ 1048576) :
    Calls Tryd.prog 6 #[x, .agg #[.int .i64 t.d, .int .i64 t.i], .agg cs.toArray] w fun e w' => e = .returned (.string (fmtV xs t v)) ∧ Below w.heap.size w w' := by
  obtain ⟨kv, rfl, ha⟩ := (VR_iff _ _ _).1 hv
  obtain ⟨A, cap, rfl, hc1, hc2⟩ := hx.form
  obtain ⟨A4, cap4, rfl, hc3, hc4⟩ := ha.form
  have HX := Lib.hid hx
  have HF := Lib.hid hf
  have HV := Lib.hid hv
  have HG := Lib.hid hg
  clear hx hf hv hg
  clear ha
  go_enter Tryd.func6, Tryd.ntmps6
  go_wp2_with fail
  obtain ⟨W2, hW2⟩ : ∃ W2, W2 = ((w.alloc (.cells #[.int .i64 t.d, .int .i64 t.i] 33)).alloc (.cells #[.int .i64 v.c, .int .i64 v.n, .slice A4 v.ks.length cap4] 37)) := ⟨_, rfl⟩
  have hB0 : Below w.heap.size w W2 := by rw [hW2]; exact ((Below.refl _ _).alloc (Nat.le_refl _) _).alloc (by simp) _
  have KT : Hid (Blk W2 w.heap.size 33 #[.int .i64 t.d, .int .i64 t.i]) := by rw [hW2]; exact (Blk.new w _ _).same (Below.heap_alloc _ _ _ (by simp))
  have KV : Hid (Blk W2 (w.heap.size + 1) 37 #[.int .i64 v.c, .int .i64 v.n, .slice A4 v.ks.length cap4]) := by rw [hW2]; have h := Blk.new (w.alloc (.cells #[.int .i64 t.d, .int .i64 t.i] 33)) 37 #[.int .i64 v.c, .int .i64 v.n, .slice A4 v.ks.length cap4]; rw [World.size_alloc] at h; exact h
  rw [← hW2]
  clear hW2
  refine (spec_ValueValid xs t v W2 _ F _ G (ArrDt.below HX.out hB0 HF.out) (HF.out.mono hB0.size) (HV.out.below hB0 HG.out) (HG.out.mono hB0.size) hz).mono ?_
  rintro e w1 ⟨rfl, hb1⟩
  have hB1 := hB0.trans (hb1.mono hB0.size)
  have KT1 := Lib.hid (KT.out.same (hb1.block _ KT.out.lt))
  have KV1 := Lib.hid (KV.out.same (hb1.block _ KV.out.lt))
  have y0 : w1.cell? ⟨w.heap.size, 0, none⟩ = some (.int .i64 t.d) := (KT1.out.cell 0).trans (by simp)
  have y1 : w1.cell? ⟨w.heap.size, 1, none⟩ = some (.int .i64 t.i) := (KT1.out.cell 1).trans (by simp)
  have x0 : w1.cell? ⟨w.heap.size + 1, 0, none⟩ = some (.int .i64 v.c) := (KV1.out.cell 0).trans (by simp)
  have x1 : w1.cell? ⟨w.heap.size + 1, 1, none⟩ = some (.int .i64 v.n) := (KV1.out.cell 1).trans (by simp)
  have x2 : w1.cell? ⟨w.heap.size + 1, 2, none⟩ = some (.slice A4 v.ks.length cap4) := (KV1.out.cell 2).trans (by simp)
  have klt := KT1.out.lt
  have klt2 := KV1.out.lt
  cases q0 : valueValidB xs t v with
  | false =>
    have hf : Hid (fmtV xs t v = ⟨#[]⟩) := if_neg (by simp [q0])
    clear q0
    go_wp2
    go_ret
    exact ⟨ret_str hf.out.symm, hB1⟩
  | true =>
    have hf : Hid (fmtV xs t v = bs (vT xs 10 t v)) := if_pos q0
    obtain ⟨h1, h2, h3, h4⟩ := valid_parts q0
    have H1 := Lib.hid h1
    have H2 := Lib.hid h2
    have H3 := Lib.hid h3
    have H4 := Lib.hid h4
    clear h1 h2 h3 h4
    clear q0
    go_wp2_with fail
    refine (spec_l2Text v xs H1.out 10 (Nat.le_refl _) t H2.out H3.out H4.out w1 _ F _ G (ArrDt.below HX.out hB1 HF.out) (HF.out.mono hB1.size) (HV.out.below hB1 HG.out) (HG.out.mono hB1.size)).mono ?_
    rintro e w2 ⟨rfl, hb2⟩
    have hB2 := hB1.trans (hb2.mono hB1.size)
    go_wp2
    go_ret
    exact ⟨ret_str hf.out.symm, hB2⟩
end Go.Proofs.YtlkkfbkghodncaaDoor

namespace Go.Proofs.YtlkkfbkghodncaaDoor
open Go.Shelf Go.RowKit

open Go.Shelf
def Shelflays156_ren : Go.Shelf.Ren := ⟨fun | 156 => 46 | 165 => 61 | 166 => 62 | 169 => 63 | 240 => 77 | 241 => 78 | 276 => 86 | 277 => 87 | n => n, fun | 31 => 63 | 9 => 9 | 3 => 3 | 4 => 4 | 0 => 0 | 20 => 20 | 72 => 95 | 76 => 99 | 70 => 93 | 37 => 73 | 75 => 98 | 127 => 114 | 164 => 125 | 5 => 5 | 80 => 101 | n => n, fun | n => n⟩
theorem Shelflays156 : Go.Proofs.Lays.n156 Tryd.prog Shelflays156_ren := {
  mixed := by kernel_rfl
  f156 := Tryd.func46.trans (congrArg some (by kernel_rfl))
  f165 := Tryd.func61.trans (congrArg some (by kernel_rfl))
  f166 := Tryd.func62.trans (congrArg some (by kernel_rfl))
  f169 := Tryd.func63.trans (congrArg some (by kernel_rfl))
  f240 := Tryd.func77.trans (congrArg some (by kernel_rfl))
  f241 := Tryd.func78.trans (congrArg some (by kernel_rfl))
  f276 := Tryd.func86.trans (congrArg some (by kernel_rfl))
  f277 := Tryd.func87.trans (congrArg some (by kernel_rfl))
  t0 := Tryd.underlying0
  a0 := Tryd.isAgg0
  z0 := Tryd.sizeOf0
  v0 := Tryd.zeroValue0
  t3 := Tryd.underlying3
  a3 := Tryd.isAgg3
  z3 := Tryd.sizeOf3
  v3 := Tryd.zeroValue3
  t4 := Tryd.underlying4
  a4 := Tryd.isAgg4
  z4 := Tryd.sizeOf4
  v4 := Tryd.zeroValue4
  t9 := Tryd.underlying9
  a9 := Tryd.isAgg9
  z9 := Tryd.sizeOf9
  v9 := Tryd.zeroValue9
  t20 := Tryd.underlying20
  a20 := Tryd.isAgg20
  z20 := Tryd.sizeOf20
  v20 := Tryd.zeroValue20
  t31 := Tryd.underlying63
  a31 := Tryd.isAgg63
  z31 := Tryd.sizeOf63
  v31 := Tryd.zeroValue63
  t37 := Tryd.underlying73
  a37 := Tryd.isAgg73
  z37 := Tryd.sizeOf73
  v37 := Tryd.zeroValue73
  t70 := Tryd.underlying93
  a70 := Tryd.isAgg93
  z70 := Tryd.sizeOf93
  v70 := Tryd.zeroValue93
  t72 := Tryd.underlying95
  a72 := Tryd.isAgg95
  z72 := Tryd.sizeOf95
  v72 := Tryd.zeroValue95
  t75 := Tryd.underlying98
  a75 := Tryd.isAgg98
  z75 := Tryd.sizeOf98
  v75 := Tryd.zeroValue98
  t76 := Tryd.underlying99
  a76 := Tryd.isAgg99
  z76 := Tryd.sizeOf99
  v76 := Tryd.zeroValue99
  t127 := Tryd.underlying114
  a127 := Tryd.isAgg114
  z127 := Tryd.sizeOf114
  v127 := Tryd.zeroValue114
  t164 := Tryd.underlying125
  a164 := Tryd.isAgg125
  z164 := Tryd.sizeOf125
  v164 := Tryd.zeroValue125 }
theorem ShelfBuilder_Extra_156 : Builder.Extra Tryd.prog Shelflays156_ren := {
  sizeBuilder := by kernel_rfl
  liesBuilder := by kernel_rfl
  t5 := Tryd.underlying5
  a5 := Tryd.isAgg5
  z5 := Tryd.sizeOf5
  v5 := Tryd.zeroValue5
  infoByte := by kernel_rfl
  cellsByte := by kernel_rfl
  sizeByte := by kernel_rfl
  neB5 := by decide }
open Go.RowKit in
/-- No element: the empty string; the world is as it was. (Whatever the slice's address and capacity: a nil slice too.) (LAID: no walk: one application.) -/
theorem Shelfstrings_Join_none (a : Option Addr) (c : Nat) (sep : ByteArray) (w : World) :
    Calls Tryd.prog 46 #[.slice a 0 c, .string sep] w fun e w' => e = .returned (.string ⟨#[]⟩) ∧ w' = w := Any.strings_Join_none Shelflays156 ShelfBuilder_Extra_156 a c sep w
open Go.RowKit in
/-- strings.Join: "Join concatenates the elements of its first argument to create a single string. The separator string sep is placed between elements in the resulting string.": HOWEVER MANY ELEMENTS. Below the heap's end the world is as it was. (LAID: no walk: one application.) -/
theorem Shelfstrings_Join (bk o c : Nat) (xs : List ByteArray) (sep : ByteArray) (w : World) (hcells : ∀ (j : Nat) x, xs[j]? = some x → w.cell? ⟨bk, o + j, none⟩ = some (.string x)) (hbk : bk < w.heap.size) (hN : xs.length ≤ 140737488355328) (hcap : xs.length ≤ c) (hlen : (Lib.join (xs.map (·.data.toList)) sep.data.toList).length ≤ 140737488355328) :
    Calls Tryd.prog 46 #[.slice (some ⟨bk, o, none⟩) xs.length c, .string sep] w fun e w' => e = .returned (.string ⟨(Lib.join (xs.map (·.data.toList)) sep.data.toList).toArray⟩) ∧ Below w.heap.size w w' := Any.strings_Join Shelflays156 ShelfBuilder_Extra_156 bk o c xs sep w hcells hbk hN hcap hlen

theorem join_call (ss : List ByteArray) (sep : ByteArray) (hl : ss.length ≤ 1000) (hj : (Lib.join (ss.map tl) (tl sep)).length ≤ 1000000) (w : World) (v : Value) (F : List Nat) (hx : Arr w (StrR w) ss v F) (hf : Under w.heap.size F) :
    Calls Tryd.prog 46 #[v, .string sep] w fun e w' => e = .returned (.string (bs (Lib.join (ss.map tl) (tl sep)))) ∧ Below w.heap.size w w' := by
  obtain ⟨A, cap, rfl, hc1, hc2⟩ := hx.form
  rcases Nat.eq_zero_or_pos ss.length with h0 | h0
  · have h1 : ss = [] := List.length_eq_zero_iff.1 h0
    subst h1
    refine (Shelfstrings_Join_none A cap sep w).mono ?_
    rintro e w' ⟨rfl, rfl⟩
    exact ⟨rfl, Below.refl _ _⟩
  · obtain ⟨b, off, rfl⟩ := hx.ptr h0
    have hat := ArrStr.at hx hf (Below.refl _ _) 0 h0
    refine (Shelfstrings_Join b off cap ss sep w (fun j x hj => ?_) hat.1 (by omega) hc1 (by show (Lib.join (ss.map tl) (tl sep)).length ≤ _; omega)).mono ?_
    · obtain ⟨hjl, hje⟩ := List.getElem?_eq_some_iff.1 hj
      rw [← hje]
      exact (ArrStr.at hx hf (Below.refl _ _) j hjl).2
    · rintro e w' ⟨rfl, hb⟩
      exact ⟨rfl, hb⟩
end Go.Proofs.YtlkkfbkghodncaaDoor

namespace Go.Proofs.YtlkkfbkghodncaaDoor
open Go.RowKit

set_option maxRecDepth 100000 in
set_option maxHeartbeats 1600000 in
theorem impl_listed (ss : List ByteArray) (hl : ss.length ≤ 1000) (hj : (Lib.join (ss.map tl) [44]).length ≤ 1000000) (w : World) (v : Value) (F : List Nat) (hx : Arr w (StrR w) ss v F) (hf : Under w.heap.size F) :
    Calls Tryd.prog 33 #[v] w fun e w' => e = .returned (.string (bs (listedT ss))) ∧ Below w.heap.size w w' := by
  obtain ⟨A, cap, rfl, hc1, hc2⟩ := hx.form
  have HX := Lib.hid hx
  have HF := Lib.hid hf
  clear hx hf
  by_cases h0 : ss = []
  · have t0 : ((ss.length : Int) == 0) = true := by rw [h0]; rfl
    have hf : Hid (bs (listedT ss) = ⟨#[]⟩) := by unfold Hid listedT; rw [if_pos h0]; rfl
    clear h0
    go_enter Tryd.func33, Tryd.ntmps33
    go_wp2
    go_ret
    exact ⟨ret_str hf.out.symm, Below.refl _ _⟩
  · have t0 : ((ss.length : Int) == 0) = false := by
      rw [beq_eq_false_iff_ne]; intro h; exact h0 (List.length_eq_zero_iff.1 (by omega))
    have hf0 : bs (listedT ss) = (bs [40] ++ bs (Lib.join (ss.map tl) [44])) ++ bs [41] := by
      unfold listedT; rw [if_neg h0, bs_append, bs_append]; rfl
    have hsz : (bs (Lib.join (ss.map tl) [44])).size ≤ 1000000 := by rw [bs_size]; exact hj
    have HJ := Lib.hid hj
    clear h0 hj
    obtain ⟨J, hJ⟩ : ∃ j, bs (Lib.join (ss.map tl) [44]) = j := ⟨_, rfl⟩
    rw [hJ] at hf0 hsz
    have HJJ := Lib.hid hJ
    have hf := Lib.hid hf0
    clear hJ hf0
    have hj1 : 1 + J.size ≤ 9223372036854775807 := by omega
    have hj3 : ¬ 9223372036854775807 < 1 + J.size := by omega
    have hj4 : 1 + J.size + 1 ≤ 9223372036854775807 := by omega
    have hj5 : ¬ 9223372036854775807 < 1 + J.size + 1 := by omega
    go_enter Tryd.func33, Tryd.ntmps33
    go_wp2_with fail
    refine (join_call ss ⟨#[44]⟩ hl HJ.out w _ F HX.out HF.out).mono ?_
    rintro e w' ⟨rfl, hb'⟩
    rw [show bs (Lib.join (ss.map tl) (tl ⟨#[44]⟩)) = J from HJJ.out]
    go_wp2
    go_ret
    exact ⟨ret_str hf.out.symm, hb'⟩
end Go.Proofs.YtlkkfbkghodncaaDoor

namespace Go.Proofs.YtlkkfbkghodncaaDoor
open Go.RowKit

theorem tenDigits (k : Nat) (h : k < 10) : ByteArray.extract ⟨#[48, 49, 50, 51, 52, 53, 54, 55, 56, 57, 97, 98, 99, 100, 101, 102, 103, 104, 105, 106, 107, 108, 109, 110, 111, 112, 113, 114, 115, 116, 117, 118, 119, 120, 121, 122]⟩ k (k + 1) = bs (digT (k : Int)) := by
  have key : ∀ j : Fin 10, ByteArray.extract ⟨#[48, 49, 50, 51, 52, 53, 54, 55, 56, 57, 97, 98, 99, 100, 101, 102, 103, 104, 105, 106, 107, 108, 109, 110, 111, 112, 113, 114, 115, 116, 117, 118, 119, 120, 121, 122]⟩ j.1 (j.1 + 1) = bs (digT (j.1 : Int)) := by decide
  exact key ⟨k, h⟩
set_option maxRecDepth 100000 in
set_option maxHeartbeats 1600000 in
theorem strconv_Itoa (k : Nat) (h : k < 10) (w : World) : Calls Tryd.prog 31 #[.int .i64 (k : Int)] w fun e w' => e = .returned (.string (bs (digT (k : Int)))) ∧ Below w.heap.size w w' := by
  have t1 : decide (0 ≤ (k : Int)) = true := decide_eq_true (by omega)
  have t2 : decide ((k : Int) < 100) = true := decide_eq_true (by omega)
  have t3 : decide ((k : Int) < 10) = true := decide_eq_true (by omega)
  have t2' : decide (k < 100) = true := decide_eq_true (by omega)
  have t3' : decide (k < 10) = true := decide_eq_true (by omega)
  have a1 : IntKind.i64.wrap ((k : Int) + 1) = (k : Int) + 1 := IntWalk.i64_in _ (by omega)
  have g1 : (0 : Int) ≤ (k : Int) := by omega
  have g2 : (k : Int) + 1 ≤ 36 := by omega
  have g3 : (k : Int) ≤ (k : Int) + 1 := by omega
  have g4 : k + 1 ≤ 36 := by omega
  have hf := Lib.hid (tenDigits k h)
  clear h
  go_enter Tryd.func31, Tryd.ntmps31
  go_wp2
  go_ret
  exact ⟨by rw [← hf.out]; rfl, Below.refl _ _⟩
end Go.Proofs.YtlkkfbkghodncaaDoor
