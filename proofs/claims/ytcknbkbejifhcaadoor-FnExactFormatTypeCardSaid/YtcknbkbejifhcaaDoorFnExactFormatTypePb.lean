/-
  Lemmas and contracts of functions: Texts of worlds as the reference writes them. Conditions: the world is valid. Regions that draw their order: a load may be taken first whose cell is written in the region, if what writes it waits for the load (operation d, which comes after the load). Conditions: none. Texts of types: strconv.Itoa at one digit, typeText, FormatType of both. Conditions: none. What comes in as an argument (slices of structs, trees) lies in memory as the plain data say. Conditions: none. A Type that comes in as an argument lies in memory as the plain data say. Conditions: none. A Ctor that comes in as an argument lies in memory as the plain data say. Conditions: none. A Data that comes in as an argument lies in memory as the plain data say. Conditions: none.
-/
import Derived.Test.YtcknbkbejifhcaaDoorFnExactFormatTypePa
import Derived.Deep.RegionWith
import Derived.Deep.RegionHeld3
import Derived.Deep.QuietTactic
import Derived.BigQuiet
import Derived.IntWalk
import Derived.ProofKit
import Derived.ChangeArms
import Derived.Deep.Fields
import Derived.Test.YtcknbkbejifhcaaDoorChecked

set_option linter.unusedVariables false
set_option linter.unusedSimpArgs false

namespace Go.Proofs.YtcknbkbejifhcaaDoor
open Go.RowKit

theorem strOf_dig (n : Int) (h0 : 0 ≤ n) (h9 : n ≤ 9) : strOfNums [48 + n] = bs (digT n) := by
  apply tl_inj
  rw [tl_bs]
  show (strOfNums [48 + n]).data.toList = _
  rw [strOfNums_data]
  unfold digT
  simp only [List.map_cons, List.map_nil, List.cons.injEq, and_true]
  congr 1
  omega
theorem ret_str {a b : ByteArray} (h : a = b) : Ending.returned (.string a) = .returned (.string b) := by rw [h]
theorem tl_append (a b : ByteArray) : tl (a ++ b) = tl a ++ tl b := data_append a b
theorem digT_len (n : Int) : (digT n).length = 1 := rfl
theorem idxT_len (n : Int) : (idxT n).length ≤ 1 := by
  unfold idxT
  split
  · simp
  · split <;> simp [digT]
theorem dname_len {s : ByteArray} (h : dnameOk (tl s) = true) : s.size = 1 := by
  rw [← tl_len]
  unfold dnameOk at h
  split at h
  · rename_i e; rw [e]; rfl
  · cases h
theorem nameOk_len {s : ByteArray} (h : nameOk (tl s) = true) : s.size ≤ 5 := by
  rcases Nat.lt_or_ge 5 s.size with h5 | h5
  · have := nameOk_false_len s (.inr h5)
    rw [show nameOk (tl s) = nameOk s.data.toList from rfl, this] at h; cases h
  · exact h5
theorem nameAt_get {xs : List Dt} {d : Nat} (h : d < xs.length) : nameAt xs (d : Int) = tl xs[d].name := by unfold nameAt; rw [Int.toNat_natCast, List.getElem?_eq_getElem h]; rfl
theorem nameAt_len {xs : List Dt} (hw : WorldOK xs) (d : Int) : (nameAt xs d).length ≤ 1 := by
  unfold nameAt
  split
  · rename_i x e
    have := dname_len (hw.all x (List.mem_of_getElem? e)).name
    rw [show x.name.data.toList.length = x.name.size from tl_len _]; omega
  · simp
theorem tyT_len {xs : List Dt} (hw : WorldOK xs) (t : Ty) : (tyT xs t).length ≤ 2 := by
  unfold tyT
  split
  · simp
  · rw [List.length_append]
    have := nameAt_len hw t.d
    have := idxT_len t.i
    omega
theorem argsT_len {xs : List Dt} (hw : WorldOK xs) : ∀ (l : List Ty) (b : Bool), (argsT xs b l).length ≤ 3 * l.length
  | [], _ => by simp [argsT]
  | a :: l, b => by
    rw [argsT, List.length_cons, List.length_append, List.length_cons]
    have := tyT_len hw a
    have := argsT_len hw l false
    omega
theorem closeT_len (c : Kt) : (closeT c).length ≤ 1 := by unfold closeT; split <;> simp
theorem endT_len (c : Kt) : (endT c).length ≤ 2 := by unfold endT; split <;> simp [digT]
theorem ktT_len {xs : List Dt} (hw : WorldOK xs) {c : Kt} (hc : KtOk xs.length c) : (ktT xs c).length ≤ 17 := by
  unfold ktT
  simp only [List.length_append]
  have h1 := nameOk_len hc.name
  rw [← tl_len] at h1
  have h2 := argsT_len hw c.args true
  have h3 := hc.args
  have h4 := closeT_len c
  have h5 := endT_len c
  have : (tl c.name).length = c.name.data.toList.length := rfl
  omega
theorem ktsT_len {xs : List Dt} (hw : WorldOK xs) : ∀ (l : List Kt) (b : Bool), (∀ c ∈ l, KtOk xs.length c) → (ktsT xs b l).length ≤ 18 * l.length
  | [], _, _ => by simp [ktsT]
  | c :: l, b, h => by
    rw [ktsT, List.length_append, List.length_append, List.length_cons]
    have := ktT_len hw (h c (by simp))
    have := ktsT_len hw l false fun c hc => h c (by simp [hc])
    have : (if b = true then ([] : List UInt8) else [124]).length ≤ 1 := by split <;> simp
    omega
theorem dtsT_len {xs : List Dt} (hw : WorldOK xs) : ∀ (l : List Dt) (b : Bool), (∀ x ∈ l, DtOk xs.length x) → (dtsT xs b l).length ≤ 100 * l.length
  | [], _, _ => by simp [dtsT]
  | x :: l, b, h => by
    rw [dtsT]
    simp only [List.length_append, List.length_cons]
    have hx := h x (by simp)
    have := ktsT_len hw x.ctors true hx.all
    have := hx.hi
    have := dtsT_len hw l false fun c hc => h c (by simp [hc])
    have h1 := dname_len hx.name
    rw [← tl_len] at h1
    have : (tl x.name).length = x.name.data.toList.length := rfl
    have : (if b = true then ([] : List UInt8) else [59]).length ≤ 1 := by split <;> simp
    omega
theorem textT_len {xs : List Dt} (hw : WorldOK xs) : (textT xs).length ≤ 400 := by
  have := dtsT_len hw xs true hw.all
  have := hw.len
  unfold textT
  omega
theorem bs_append (a b : List UInt8) : bs a ++ bs b = bs (a ++ b) := tl_inj (by rw [tl_append, tl_bs, tl_bs, tl_bs])
theorem argsT_step (xs : List Dt) (b : Bool) (l : List Ty) (i : Nat) (h : i < l.length) : argsT xs b (l.drop i) = (if b = true then 40 else 44) :: (tyT xs l[i] ++ argsT xs false (l.drop (i + 1))) := by rw [List.drop_eq_getElem_cons h, argsT]
theorem ktsT_step (xs : List Dt) (b : Bool) (l : List Kt) (i : Nat) (h : i < l.length) : ktsT xs b (l.drop i) = (if b = true then [] else [124]) ++ (ktT xs l[i] ++ ktsT xs false (l.drop (i + 1))) := by rw [List.drop_eq_getElem_cons h, ktsT]
theorem dtsT_step (xs : List Dt) (b : Bool) (l : List Dt) (i : Nat) (h : i < l.length) : dtsT xs b (l.drop i) = (if b = true then [] else [59]) ++ (l[i].name.data.toList ++ (61 :: (ktsT xs true l[i].ctors ++ dtsT xs false (l.drop (i + 1))))) := by rw [List.drop_eq_getElem_cons h, dtsT]
set_option maxRecDepth 100000 in
set_option maxHeartbeats 1600000 in
theorem spec_l17Dec (n : Int) (h0 : 0 ≤ n) (h9 : n ≤ 9) (w : World) : Calls Tryd.prog 75 #[.int .i64 n] w fun e w' => e = .returned (.string (bs (digT n))) ∧ Below w.heap.size w w' := by
  have t1 : decide (n < -9223372036854775807) = false := by simp; omega
  have t2 : decide (n < 0) = false := by simp; omega
  have t3 : decide (n > 9) = false := by simp; omega
  have hf := Lib.hid (strOf_dig n h0 h9)
  go_enter Tryd.func75, Tryd.ntmps75
  go_wp2
  go_loopw [0, 3] (fun nv ov wr => nv = .int .i64 n ∧ ov = .string ⟨#[]⟩ ∧ Below w.heap.size w wr) (fun _ _ _ => 0)
  case atStart => exact ⟨rfl, rfl, Below.refl _ _⟩
  case round =>
    obtain ⟨rfl, rfl, hB⟩ := hrel
    have hcv := conv1 wr (48 + n)
    have hsz : (strOfNums [48 + n]).size + 0 ≤ 9223372036854775807 := by rw [strOfNums_size]; simp
    go_wp2
    go_ret
    exact ⟨by rw [← hf.out]; rfl, hB.alloc hB.size _⟩

set_option maxRecDepth 100000 in
set_option maxHeartbeats 1600000 in
theorem spec_l1Index (n : Int) (h0 : -1 ≤ n) (h9 : n ≤ 9) (w : World) : Calls Tryd.prog 58 #[.int .i64 n] w fun e w' => e = .returned (.string (bs (idxT n))) ∧ Below w.heap.size w w' := by
  cases q0 : (n == 0) with
  | true =>
    have hf : Hid (bs (idxT n) = ⟨#[]⟩) := by rw [beq_iff_eq] at q0; unfold Hid idxT; rw [if_pos q0]; rfl
    go_enter Tryd.func58, Tryd.ntmps58
    go_wp2
    go_ret
    exact ⟨ret_str hf.out.symm, Below.refl _ _⟩
  | false =>
    have n0 : n ≠ 0 := by simpa using q0
    cases q1 : (n == -1) with
    | true =>
      have hf : Hid (bs (idxT n) = ⟨#[42]⟩) := by rw [beq_iff_eq] at q1; unfold Hid idxT; rw [if_neg n0, if_pos q1]; rfl
      go_enter Tryd.func58, Tryd.ntmps58
      go_wp2
      go_ret
      exact ⟨ret_str hf.out.symm, Below.refl _ _⟩
    | false =>
      have n1 : n ≠ -1 := by simpa using q1
      have hf : Hid (bs (idxT n) = bs (digT n)) := by unfold Hid idxT; rw [if_neg n0, if_neg n1]
      have HN : Hid (0 ≤ n ∧ n ≤ 9) := ⟨by omega, h9⟩
      clear n0 n1
      go_enter Tryd.func58, Tryd.ntmps58
      go_wp2_with fail
      refine (spec_l17Dec n HN.out.1 HN.out.2 _).mono ?_
      rintro e w' ⟨rfl, hB'⟩
      go_wp2
      go_ret
      exact ⟨ret_str hf.out.symm, hB'⟩
set_option maxRecDepth 100000 in
set_option maxHeartbeats 1600000 in
theorem spec_l1Type (xs : List Dt) (hw : WorldOK xs) (t : Ty) (ht : argOkB xs.length t = true) (w : World) (v : Value) (F : List Nat) (hx : Arr w (DtR w) xs v F) (hf : Under w.heap.size F) :
    Calls Tryd.prog 39 #[v, .agg #[.int .i64 t.d, .int .i64 t.i]] w fun e w' => e = .returned (.string (bs (tyT xs t))) ∧ Below w.heap.size w w' := by
  obtain ⟨A, cap, rfl, hc1, hc2⟩ := hx.form
  have hin := argOkB_in ht
  have HW := Lib.hid hw
  have HX := Lib.hid hx
  have HF := Lib.hid hf
  clear hx hf
  clear hw
  by_cases hd : t.d = -1
  · have t0 : (t.d == -1) = true := by simp [hd]
    have hf : Hid (bs (tyT xs t) = ⟨#[73]⟩) := by unfold Hid tyT; rw [if_pos hd]; rfl
    clear ht hin hd
    go_enter Tryd.func39, Tryd.ntmps39
    go_wp2
    go_ret
    exact ⟨ret_str hf.out.symm, (Below.refl _ _).alloc (Nat.le_refl _) _⟩
  · rcases hin with h | ⟨d, hd2, hdl⟩
    · exact absurd h hd
    have hi : -1 ≤ t.i ∧ t.i ≤ 9 := by
      unfold argOkB at ht
      rw [if_neg hd] at ht
      simp [withinB] at ht
      omega
    obtain ⟨t1, i⟩ := t
    simp only at hd2 hi hd
    subst hd2
    have hf : Hid (bs (tyT xs ⟨(d : Int), i⟩) = xs[d].name ++ bs (idxT i)) := by
      unfold Hid tyT
      rw [if_neg hd]
      simp only
      rw [nameAt_get hdl, ← bs_append, bs_tl]
    have HI : Hid (-1 ≤ i ∧ i ≤ 9) := hi
    have t0 : ((d : Int) == -1) = false := by rw [beq_eq_false_iff_ne]; omega
    clear ht hd hi
    obtain ⟨b, off, rfl⟩ := HX.out.ptr (by omega)
    have g1 : (0 : Int) ≤ (d : Int) := by omega
    have g2 : (d : Int) < (xs.length : Int) := by omega
    have hB0 : Below w.heap.size w (w.alloc (.cells #[.int .i64 (d : Int), .int .i64 i] 44)) := (Below.refl _ _).alloc (Nat.le_refl _) _
    obtain ⟨A1, cap1, G1, hb, c0, c1, HK, HG, hs, hn1, hn2⟩ := ArrDt.at HX.out HF.out hB0 d hdl
    have hns : xs[d].name.size = 1 := dname_len (HW.out.at hdl).name
    have his : (bs (idxT i)).size ≤ 1 := idxT_len i
    have hcat : xs[d].name.size + (bs (idxT i)).size ≤ 9223372036854775807 := by omega
    have hcat2 : (xs[d].name.size : Int) + ((bs (idxT i)).size : Int) ≤ 9223372036854775807 := by omega
    have hcat3 : ¬ 9223372036854775807 < (xs[d].name.size : Int) + ((bs (idxT i)).size : Int) := by omega
    go_enter Tryd.func39, Tryd.ntmps39
    go_wp2_with fail
    obtain ⟨W2, hW2⟩ : ∃ W2, W2 = w.alloc (.cells #[.int .i64 (d : Int), .int .i64 i] 44) := ⟨_, rfl⟩
    have KT : Hid (Blk W2 w.heap.size 44 #[.int .i64 (d : Int), .int .i64 i]) := by rw [hW2]; exact Blk.new w _ _
    rw [← hW2] at hB0 c0 c1 hb ⊢
    clear hW2
    have y0 : W2.cell? ⟨w.heap.size, 0, none⟩ = some (.int .i64 (d : Int)) := (KT.out.cell 0).trans (by simp)
    have y1 : W2.cell? ⟨w.heap.size, 1, none⟩ = some (.int .i64 i) := (KT.out.cell 1).trans (by simp)
    have klt := KT.out.lt
    clear hns his c1
    have HCALL := Lib.hid (spec_l1Index i HI.out.1 HI.out.2 W2.drew)
    go_region_with (go_at_call 58; ((with_reducible refine HCALL.out.mono ?_); rintro e w' ⟨rfl, hB'⟩; have y0' : w'.cell? ⟨w.heap.size, 0, none⟩ = some (.int .i64 (d : Int)) := (hB'.cell klt).trans y0; have y1' : w'.cell? ⟨w.heap.size, 1, none⟩ = some (.int .i64 i) := (hB'.cell klt).trans y1; have c0' : w'.cell? ⟨b, off + d * 2, none⟩ = some (.string xs[d].name) := (hB'.cell hb).trans c0))
    all_goals (
      have hB3 := hB0.drew.trans (hB'.mono hB0.size)
      go_wp2
      go_ret
      exact ⟨ret_str hf.out.symm, hB3⟩)
set_option maxRecDepth 100000 in
set_option maxHeartbeats 1600000 in
theorem spec_l1CtorText (xs : List Dt) (hw : WorldOK xs) (c : Kt) (hc : KtOk xs.length c) (w : World) (v : Value) (F : List Nat) (hx : Arr w (DtR w) xs v F) (hf : Under w.heap.size F) (A1 : Option Addr) (cap1 : Nat) (G : List Nat) (hk : KtR w c [.string c.name, .slice A1 c.args.length cap1, .int .i64 c.idx] G) (hg : Under w.heap.size G) :
    Calls Tryd.prog 65 #[v, .agg #[.string c.name, .slice A1 c.args.length cap1, .int .i64 c.idx]] w fun e w' => e = .returned (.string (bs (ktT xs c))) ∧ Below w.heap.size w w' := by
  obtain ⟨A, cap, rfl, hc1, hc2⟩ := hx.form
  obtain ⟨kv, hkv, ha, hs⟩ := id hk
  obtain rfl : kv = .slice A1 c.args.length cap1 := by simpa using (List.cons.inj (List.cons.inj hkv).2).1.symm
  obtain ⟨A', cap', e, hc3, hc4⟩ := ha.form
  cases e
  have hn5 := nameOk_len hc.name
  have ha3 := hc.args
  have hid0 := hc.lo
  have hid3 := hc.hi
  have HALL := Lib.hid hc.all
  have HW := Lib.hid hw
  have HX := Lib.hid hx
  have HF := Lib.hid hf
  have HA := Lib.hid ha
  have HG := Lib.hid hg
  clear hx hf ha hg
  clear hw hc hk hkv
  go_enter Tryd.func65, Tryd.ntmps65
  go_wp2
  have hB0 : Below w.heap.size w (w.alloc (.cells #[.string c.name, .slice A1 c.args.length cap1, .int .i64 c.idx] 27)) := (Below.refl _ _).alloc (Nat.le_refl _) _
  have K0 : Hid (Blk (w.alloc (.cells #[.string c.name, .slice A1 c.args.length cap1, .int .i64 c.idx] 27)) w.heap.size 27 #[.string c.name, .slice A1 c.args.length cap1, .int .i64 c.idx]) := Blk.new _ _ _
  go_loopw [5, 6] (fun ov iv wr => ∃ i : Nat, ∃ out : ByteArray, i ≤ c.args.length ∧ iv = .int .i64 i ∧ ov = .string out ∧ out.size ≤ 5 + 3 * i ∧ Hid (tl c.name ++ argsT xs true c.args = tl out ++ argsT xs (decide (i = 0)) (c.args.drop i)) ∧ Hid (Blk wr w.heap.size 27 #[.string c.name, .slice A1 c.args.length cap1, .int .i64 c.idx]) ∧ Below w.heap.size w wr) (fun _ iv _ => c.args.length - (intOf iv).toNat)
  case atStart => exact ⟨0, c.name, Nat.zero_le _, rfl, rfl, by omega, rfl, K0, hB0⟩
  case round =>
    clear hB0 K0
    obtain ⟨i, out, hi, rfl, rfl, hos, HT, KC, hB⟩ := hrel
    have q0 : wr.cell? ⟨w.heap.size, 0, none⟩ = some (.string c.name) := (KC.out.cell 0).trans (by simp)
    have q1 : wr.cell? ⟨w.heap.size, 1, none⟩ = some (.slice A1 c.args.length cap1) := (KC.out.cell 1).trans (by simp)
    have q2 : wr.cell? ⟨w.heap.size, 2, none⟩ = some (.int .i64 c.idx) := (KC.out.cell 2).trans (by simp)
    have klt := KC.out.lt
    by_cases hil : i < c.args.length
    · obtain ⟨b3, off3, rfl⟩ := HA.out.ptr (by omega)
      obtain ⟨hb4, a0, a1⟩ := ArrTy.at HA.out HG.out hB i hil
      have g5 : (0 : Int) ≤ (i : Int) := by omega
      have g6 : (i : Int) < (c.args.length : Int) := by omega
      have hst := HT.out
      rw [argsT_step xs _ _ i hil] at hst
      have htl : (bs (tyT xs c.args[i])).size ≤ 2 := tyT_len HW.out _
      have HOK := Lib.hid (HALL.out _ (List.getElem_mem hil))
      have hcat0 : out.size + 1 ≤ 9223372036854775807 := by omega
      have hcat1 : out.size + 1 + (bs (tyT xs c.args[i])).size ≤ 9223372036854775807 := by omega
      cases q3 : ((i : Int) == 0) with
      | true =>
        have hi0 : decide (i = 0) = true := by rw [beq_iff_eq] at q3; exact decide_eq_true (by omega)
        rw [hi0, if_pos rfl] at hst
        have hst2 : tl c.name ++ argsT xs true c.args = tl (out ++ ⟨#[40]⟩ ++ bs (tyT xs c.args[i])) ++ argsT xs (decide (i + 1 = 0)) (c.args.drop (i + 1)) := by
          rw [hst, tl_append, tl_append, tl_bs, decide_eq_false (show ¬ (i + 1 = 0) by omega)]
          show tl out ++ 40 :: _ = _
          simp [tl]
        have HST := Lib.hid hst2
        have hs2 : (out ++ ⟨#[40]⟩ ++ bs (tyT xs c.args[i])).size ≤ 5 + 3 * (i + 1) := by rw [size_append, size_append]; show out.size + 1 + _ ≤ _; omega
        have HS2 := Lib.hid hs2
        clear hst hst2 hs2 hi0
        go_wp2_with fail
        refine (spec_l1Type xs HW.out c.args[i] HOK.out wr _ F (ArrDt.below HX.out hB HF.out) (HF.out.mono hB.size)).mono ?_
        rintro e w' ⟨rfl, hB'⟩
        have hB3 := hB.trans (hB'.mono hB.size)
        have KC3 := Lib.hid (KC.out.same (hB'.block _ KC.out.lt))
        clear q0 q1 q2 a0 a1
        go_wp2
        go_roundw
        case rel => exact ⟨i + 1, _, by omega, by go_num, rfl, HS2.out, HST, KC3, hB3⟩
        case measure => (simp [intOf] <;> omega)
      | false =>
        have hi0 : decide (i = 0) = false := by rw [beq_eq_false_iff_ne] at q3; exact decide_eq_false (by omega)
        rw [hi0, if_neg (by simp)] at hst
        have hst2 : tl c.name ++ argsT xs true c.args = tl (out ++ ⟨#[44]⟩ ++ bs (tyT xs c.args[i])) ++ argsT xs (decide (i + 1 = 0)) (c.args.drop (i + 1)) := by
          rw [hst, tl_append, tl_append, tl_bs, decide_eq_false (show ¬ (i + 1 = 0) by omega)]
          show tl out ++ 44 :: _ = _
          simp [tl]
        have HST := Lib.hid hst2
        have hs2 : (out ++ ⟨#[44]⟩ ++ bs (tyT xs c.args[i])).size ≤ 5 + 3 * (i + 1) := by rw [size_append, size_append]; show out.size + 1 + _ ≤ _; omega
        have HS2 := Lib.hid hs2
        clear hst hst2 hs2 hi0
        go_wp2_with fail
        refine (spec_l1Type xs HW.out c.args[i] HOK.out wr _ F (ArrDt.below HX.out hB HF.out) (HF.out.mono hB.size)).mono ?_
        rintro e w' ⟨rfl, hB'⟩
        have hB3 := hB.trans (hB'.mono hB.size)
        have KC3 := Lib.hid (KC.out.same (hB'.block _ KC.out.lt))
        clear q0 q1 q2 a0 a1
        go_wp2
        go_roundw
        case rel => exact ⟨i + 1, _, by omega, by go_num, rfl, HS2.out, HST, KC3, hB3⟩
        case measure => (simp [intOf] <;> omega)
    · have hte := HT.out
      rw [List.drop_of_length_le (by omega)] at hte
      have hte2 : tl c.name ++ argsT xs true c.args = tl out := by rw [hte, argsT, List.append_nil]
      have HTE : Hid (tl c.name ++ argsT xs true c.args = tl out) := hte2
      clear hte hte2
      have hos2 : out.size ≤ 14 := by omega
      by_cases hp : 0 < c.args.length
      · have hcl : Hid (closeT c = [41]) := if_pos hp
        have t5 : decide ((c.args.length : Int) > 0) = true := by simp; omega
        by_cases hd : 0 < c.idx
        · have hen : Hid (endT c = 58 :: digT c.idx) := if_pos hd
          have t6 : decide (c.idx > 0) = true := by simpa using hd
          have hcat1 : out.size + 1 ≤ 9223372036854775807 := by omega
          have hcat2 : out.size + 1 + 1 ≤ 9223372036854775807 := by omega
          have hcat3 : out.size + 1 + 1 + 1 ≤ 9223372036854775807 := by omega
          have hbd : (bs (digT c.idx)).size = 1 := rfl
          go_wp2_with fail
          refine (spec_l17Dec c.idx hid0 (by omega) wr).mono ?_
          rintro e w' ⟨rfl, hB'⟩
          have hB3 := hB.trans (hB'.mono hB.size)
          have hfin : bs (ktT xs c) = out ++ ⟨#[41]⟩ ++ ⟨#[58]⟩ ++ bs (digT c.idx) := by
            apply tl_inj
            rw [tl_append, tl_append, tl_append, tl_bs, tl_bs, ← HTE.out]
            unfold ktT
            rw [hcl.out, hen.out]
            simp [tl]
          have HFin := Lib.hid hfin
          clear hfin q0 q1 q2
          go_wp2
          go_ret
          exact ⟨ret_str HFin.out.symm, hB3⟩
        · have hen : Hid (endT c = []) := if_neg hd
          have t6 : decide (c.idx > 0) = false := by simpa using hd
          have hcat1 : out.size + 1 ≤ 9223372036854775807 := by omega
          have hfin : bs (ktT xs c) = out ++ ⟨#[41]⟩ := by
            apply tl_inj
            rw [tl_append, tl_bs, ← HTE.out]
            unfold ktT
            rw [hcl.out, hen.out]
            simp [tl]
          have HFin := Lib.hid hfin
          clear hfin
          go_wp2
          go_ret
          exact ⟨ret_str HFin.out.symm, hB⟩
      · have hcl : Hid (closeT c = []) := if_neg hp
        have t5 : decide ((c.args.length : Int) > 0) = false := decide_eq_false (by omega)
        by_cases hd : 0 < c.idx
        · have hen : Hid (endT c = 58 :: digT c.idx) := if_pos hd
          have t6 : decide (c.idx > 0) = true := by simpa using hd
          have hcat1 : out.size + 1 ≤ 9223372036854775807 := by omega
          have hcat2 : out.size + 1 + 1 ≤ 9223372036854775807 := by omega
          have hbd : (bs (digT c.idx)).size = 1 := rfl
          go_wp2_with fail
          refine (spec_l17Dec c.idx hid0 (by omega) wr).mono ?_
          rintro e w' ⟨rfl, hB'⟩
          have hB3 := hB.trans (hB'.mono hB.size)
          have hfin : bs (ktT xs c) = out ++ ⟨#[58]⟩ ++ bs (digT c.idx) := by
            apply tl_inj
            rw [tl_append, tl_append, tl_bs, tl_bs, ← HTE.out]
            unfold ktT
            rw [hcl.out, hen.out]
            simp [tl]
          have HFin := Lib.hid hfin
          clear hfin q0 q1 q2
          go_wp2
          go_ret
          exact ⟨ret_str HFin.out.symm, hB3⟩
        · have hen : Hid (endT c = []) := if_neg hd
          have t6 : decide (c.idx > 0) = false := by simpa using hd
          have hfin : bs (ktT xs c) = out := by
            apply tl_inj
            rw [tl_bs, ← HTE.out]
            unfold ktT
            rw [hcl.out, hen.out]
            simp [tl]
          have HFin := Lib.hid hfin
          clear hfin
          go_wp2
          go_ret
          exact ⟨ret_str HFin.out.symm, hB⟩
end Go.Proofs.YtcknbkbejifhcaaDoor

namespace Go.Proofs.YtcknbkbejifhcaaDoor
open Go

section
variable {P : Program} {ops : Array Oper} {Q : Exit → Act → World → Prop} {md : Region.Mode} {S T : World → Prop} {d : Nat}

/-- behind every operation S holds, and T as long as operation d has not come up -/
def wpAnyB (P : Program) (md : Region.Mode) (ops : Array Oper) (Q : Exit → Act → World → Prop) (S T : World → Prop) (d : Nat) : Nat → Array Bool → Act → World → Prop
  | 0, listed, a, w => Region.ready md ops listed = [] ∧ Q .normal a w
  | fuel + 1, listed, a, w =>
    (Region.ready md ops listed = [] → Q .normal a w) ∧
    ∀ i ∈ Region.ready md ops listed, wpOp P ops Q i (fun a' w' => (S w' ∧ ((listed.setIfInBounds i true).getD d false = false → T w')) ∧ wpAnyB P md ops Q S T d fuel (listed.setIfInBounds i true) a' w') a w
theorem wpAny_of_B : ∀ (fuel : Nat) (listed : Array Bool) (a : Act) (w : World), wpAnyB P md ops Q S T d fuel listed a w → wpAny P md ops Q fuel listed a w
  | 0, _, _, _, h => h
  | fuel + 1, _, _, _, h => ⟨h.1, fun i hi => wpOp_mono (fun _ _ h' => wpAny_of_B fuel _ _ _ h'.2) (h.2 i hi)⟩
/-- an operation that yields under S alone -/
theorem wpAnyB_first {i : Nat} {oi : Oper} {v : Value} (hi : ops[i]? = some oi) (hid : i ≠ d) (hsel : ∀ (j : Nat) (o : Oper) cs b, ops[j]? = some o → o.op ≠ .select cs b)
    (hQ : ∀ c a w, Q (.panic c) (a.put oi.dst v) w → Q (.panic c) a w) :
    ∀ (fuel : Nat) (listed : Array Bool) (a : Act) (w : World),
      (∀ j oj, ops[j]? = some oj → j ≠ i → listed.getD j true = false → (∀ e ∈ oj.after, Region.binds md e = true → e.on ≠ i) → oi.apart ops oj = true) →
      i ∈ Region.ready md ops listed → YieldsIf P ops S oi v a → S w → (listed.getD d false = false → T w) →
      wpAnyB P md ops Q S T d fuel (listed.setIfInBounds i true) (a.put oi.dst v) w → wpAnyB P md ops Q S T d (fuel + 1) listed a w := by
  intro fuel
  induction fuel with
  | zero =>
    intro listed a w _ hr hy hS hT H
    refine ⟨fun h => (by rw [h] at hr; cases hr), fun j hj => ?_⟩
    by_cases hji : j = i
    · subst hji; exact hy.wpOp hi hS ⟨⟨hS, fun h => hT (by rwa [getD_set_ne false hid] at h)⟩, H⟩
    · have := ready_mono hj hji
      rw [H.1] at this
      cases this
  | succ fuel ih =>
    intro listed a w hfree hr hy hS hT H
    refine ⟨fun h => (by rw [h] at hr; cases hr), fun j hj => ?_⟩
    by_cases hji : j = i
    · subst hji; exact hy.wpOp hi hS ⟨⟨hS, fun h => hT (by rwa [getD_set_ne false hid] at h)⟩, H⟩
    · have h1 := H.2 j (ready_mono hj hji)
      obtain ⟨hjun, oj, hoj, hall⟩ := mem_ready.1 hj
      have hnot : ∀ e ∈ oj.after, Region.binds md e = true → e.on ≠ i := fun e he hb heq => by
        have h1 := hall e he hb
        have h0 := (mem_ready.1 hr).1
        rw [heq] at h1
        rcases Nat.lt_or_ge i listed.size with h' | h'
        · simp [h'] at h0 h1; rw [h0] at h1; cases h1
        · simp [Array.getElem?_eq_none h'] at h1
      have h2 := wpOp_putIf hoj (hfree j oj hoj hji hjun hnot) (fun cs b => hsel i oi cs b hi) (fun cs b => hsel j oj cs b hoj) hQ hy h1
      have hfree' : ∀ k ok, ops[k]? = some ok → k ≠ i → (listed.setIfInBounds j true).getD k true = false →
          (∀ e ∈ ok.after, Region.binds md e = true → e.on ≠ i) → oi.apart ops ok = true := fun k ok hk hki hun hno => by
        refine hfree k ok hk hki ?_ hno
        by_cases hjk : j = k
        · subst hjk; exact hjun
        · rw [getD_set_ne true hjk] at hun; exact hun
      have hbit : ((listed.setIfInBounds i true).setIfInBounds j true).getD d false = (listed.setIfInBounds j true).getD d false := by
        rw [Array.setIfInBounds_comm _ _ (Ne.symm hji), getD_set_ne false hid]
      refine wpOp_mono (fun a' w' h3 => ⟨⟨h3.2.1.1, fun h => h3.2.1.2 (hbit.trans h)⟩, ih (listed.setIfInBounds j true) a' w' hfree' (ready_mono hr (Ne.symm hji)) h3.1 h3.2.1.1 (fun h => h3.2.1.2 (hbit.trans h)) ?_⟩) h2
      rw [Array.setIfInBounds_comm _ _ hji]
      exact h3.2.2
/-- an operation that yields under S and T, for which operation d waits -/
theorem wpAnyB_firstT {i : Nat} {oi od : Oper} {v : Value} (hi : ops[i]? = some oi) (hid : i ≠ d) (hd : ops[d]? = some od) (hdi : ∃ e ∈ od.after, Region.binds md e = true ∧ e.on = i) (hsel : ∀ (j : Nat) (o : Oper) cs b, ops[j]? = some o → o.op ≠ .select cs b)
    (hQ : ∀ c a w, Q (.panic c) (a.put oi.dst v) w → Q (.panic c) a w) :
    ∀ (fuel : Nat) (listed : Array Bool) (a : Act) (w : World),
      (∀ j oj, ops[j]? = some oj → j ≠ i → listed.getD j true = false → (∀ e ∈ oj.after, Region.binds md e = true → e.on ≠ i) → oi.apart ops oj = true) →
      i ∈ Region.ready md ops listed → YieldsIf P ops (fun w => S w ∧ T w) oi v a → listed.getD d false = false → S w → T w →
      wpAnyB P md ops Q S T d fuel (listed.setIfInBounds i true) (a.put oi.dst v) w → wpAnyB P md ops Q S T d (fuel + 1) listed a w := by
  intro fuel
  induction fuel with
  | zero =>
    intro listed a w _ hr hy hdf hS hT H
    refine ⟨fun h => (by rw [h] at hr; cases hr), fun j hj => ?_⟩
    by_cases hji : j = i
    · subst hji; exact hy.wpOp hi ⟨hS, hT⟩ ⟨⟨hS, fun _ => hT⟩, H⟩
    · have := ready_mono hj hji
      rw [H.1] at this
      cases this
  | succ fuel ih =>
    intro listed a w hfree hr hy hdf hS hT H
    refine ⟨fun h => (by rw [h] at hr; cases hr), fun j hj => ?_⟩
    by_cases hji : j = i
    · subst hji; exact hy.wpOp hi ⟨hS, hT⟩ ⟨⟨hS, fun _ => hT⟩, H⟩
    · have h1 := H.2 j (ready_mono hj hji)
      obtain ⟨hjun, oj, hoj, hall⟩ := mem_ready.1 hj
      have hnot : ∀ e ∈ oj.after, Region.binds md e = true → e.on ≠ i := fun e he hb heq => by
        have h1 := hall e he hb
        have h0 := (mem_ready.1 hr).1
        rw [heq] at h1
        rcases Nat.lt_or_ge i listed.size with h' | h'
        · simp [h'] at h0 h1; rw [h0] at h1; cases h1
        · simp [Array.getElem?_eq_none h'] at h1
      have hjd : j ≠ d := fun e => by
        subst e
        rw [hoj] at hd
        cases hd
        obtain ⟨e, he, hb, ho⟩ := hdi
        exact hnot e he hb ho
      have h2 := wpOp_putIf hoj (hfree j oj hoj hji hjun hnot) (fun cs b => hsel i oi cs b hi) (fun cs b => hsel j oj cs b hoj) hQ hy h1
      have hfree' : ∀ k ok, ops[k]? = some ok → k ≠ i → (listed.setIfInBounds j true).getD k true = false →
          (∀ e ∈ ok.after, Region.binds md e = true → e.on ≠ i) → oi.apart ops ok = true := fun k ok hk hki hun hno => by
        refine hfree k ok hk hki ?_ hno
        by_cases hjk : j = k
        · subst hjk; exact hjun
        · rw [getD_set_ne true hjk] at hun; exact hun
      have hdf2 : (listed.setIfInBounds j true).getD d false = false := by rw [getD_set_ne false hjd]; exact hdf
      have hdf3 : ((listed.setIfInBounds i true).setIfInBounds j true).getD d false = false := by rw [getD_set_ne false hjd, getD_set_ne false hid]; exact hdf
      refine wpOp_mono (fun a' w' h3 => ⟨⟨h3.2.1.1, fun _ => h3.2.1.2 hdf3⟩, ih (listed.setIfInBounds j true) a' w' hfree' (ready_mono hr (Ne.symm hji)) h3.1 hdf2 h3.2.1.1 (h3.2.1.2 hdf3) ?_⟩) h2
      rw [Array.setIfInBounds_comm _ _ hji]
      exact h3.2.2
theorem wpAnyB_take {i : Nat} {oi : Oper} {v : Value} {fuel : Nat} {listed : Array Bool} {a : Act} {w : World} (hi : ops[i]? = some oi) (hid : i ≠ d)
    (hs : Region.noSelect ops = true) (hf : Region.free md ops listed i = true) (hr : (Region.ready md ops listed).contains i = true)
    (hQ : ∀ c a w, Q (.panic c) (a.put oi.dst v) w → Q (.panic c) a w) (hy : YieldsIf P ops S oi v a) (hS : S w) (hT : listed.getD d false = false → T w)
    (h : wpAnyB P md ops Q S T d fuel (listed.setIfInBounds i true) (a.put oi.dst v) w) : wpAnyB P md ops Q S T d (fuel + 1) listed a w :=
  wpAnyB_first hi hid (Region.noSelect_spec hs) hQ fuel listed a w (Region.free_spec hi hf) (by simpa using hr) hy hS hT h
theorem wpAnyB_takeT {i : Nat} {oi od : Oper} {v : Value} {fuel : Nat} {listed : Array Bool} {a : Act} {w : World} (hi : ops[i]? = some oi) (hid : i ≠ d) (hd : ops[d]? = some od) (hdi : ∃ e ∈ od.after, Region.binds md e = true ∧ e.on = i)
    (hs : Region.noSelect ops = true) (hf : Region.free md ops listed i = true) (hr : (Region.ready md ops listed).contains i = true)
    (hQ : ∀ c a w, Q (.panic c) (a.put oi.dst v) w → Q (.panic c) a w) (hy : YieldsIf P ops (fun w => S w ∧ T w) oi v a) (hdf : listed.getD d false = false) (hS : S w) (hT : T w)
    (h : wpAnyB P md ops Q S T d fuel (listed.setIfInBounds i true) (a.put oi.dst v) w) : wpAnyB P md ops Q S T d (fuel + 1) listed a w :=
  wpAnyB_firstT hi hid hd hdi (Region.noSelect_spec hs) hQ fuel listed a w (Region.free_spec hi hf) (by simpa using hr) hy hdf hS hT h
theorem wpAnyB_takeB {i : Nat} {oi od : Oper} {v : Value} {fuel : Nat} {listed : Array Bool} {a : Act} {w : World} (hi : ops[i]? = some oi) (hid : i ≠ d) (hd : ops[d]? = some od) (hdi : (od.after.any fun e => Region.binds md e && e.on == i) = true)
    (hs : Region.noSelect ops = true) (hf : Region.free md ops listed i = true) (hr : (Region.ready md ops listed).contains i = true)
    (hQ : ∀ c a w, Q (.panic c) (a.put oi.dst v) w → Q (.panic c) a w) (hy : YieldsIf P ops (fun w => S w ∧ T w) oi v a) (hdf : listed.getD d false = false) (hS : S w) (hT : T w)
    (h : wpAnyB P md ops Q S T d fuel (listed.setIfInBounds i true) (a.put oi.dst v) w) : wpAnyB P md ops Q S T d (fuel + 1) listed a w :=
  wpAnyB_takeT hi hid hd (by
    obtain ⟨k, hk, hb⟩ := Array.any_eq_true.1 hdi
    rw [Bool.and_eq_true, beq_iff_eq] at hb
    exact ⟨_, Array.getElem_mem hk, hb.1, hb.2⟩) hs hf hr hQ hy hdf hS hT h
theorem wpAnyB_all {rs : List Nat} {fuel : Nat} {listed : Array Bool} {a : Act} {w : World} (hr : Region.ready md ops listed = rs) (hne : rs ≠ [])
    (h : ∀ i ∈ rs, wpOp P ops Q i (fun a' w' => (S w' ∧ ((listed.setIfInBounds i true).getD d false = false → T w')) ∧ wpAnyB P md ops Q S T d fuel (listed.setIfInBounds i true) a' w') a w) : wpAnyB P md ops Q S T d (fuel + 1) listed a w :=
  ⟨fun h0 => absurd (hr ▸ h0) hne, hr ▸ h⟩
theorem wpAnyB_done {listed : Array Bool} {a : Act} {w : World} (hr : Region.ready md ops listed = []) (h : Q .normal a w) : ∀ fuel, wpAnyB P md ops Q S T d fuel listed a w
  | 0 => ⟨hr, h⟩
  | _ + 1 => ⟨fun _ => h, by rw [hr]; simp⟩
theorem wp_region_B {id : Nat} {a : Act} {w : World} (hm : P.follows .mixedOrders = true)
    (h : wpAnyB P .any ops Q S T d ops.size (Array.replicate ops.size false) a w.drew) : (Code.region id ops true).wp P Q a w :=
  wp_region_any hm (wpAny_of_B _ _ _ _ h)
/-- each of the operations rs comes up next; what must then be shown: S, T as long as d has not come up, and the rest -/
def AllReadyB (P : Program) (md : Region.Mode) (ops : Array Oper) (Q : Exit → Act → World → Prop) (S T : World → Prop) (d fuel : Nat) (listed : Array Bool) (a : Act) (w : World) (rs : List Nat) : Prop :=
  ∀ i ∈ rs, wpOp P ops Q i (fun a' w' => (S w' ∧ ((listed.setIfInBounds i true).getD d false = false → T w')) ∧ wpAnyB P md ops Q S T d fuel (listed.setIfInBounds i true) a' w') a w
theorem AllReadyB.nil {fuel : Nat} {listed : Array Bool} {a : Act} {w : World} : AllReadyB P md ops Q S T d fuel listed a w [] := fun _ h => by cases h
theorem AllReadyB.cons {fuel : Nat} {listed : Array Bool} {a : Act} {w : World} {i : Nat} {o : Oper} {rs : List Nat} (ho : ops[i]? = some o)
    (h : ∀ K' : Act → World → Prop, Shut (∀ a w, S w → ((listed.setIfInBounds i true).getD d false = false → T w) → wpAnyB P md ops Q S T d fuel (listed.setIfInBounds i true) a w → K' a w) → if Region.wanted o (yielded ops a.tmps) = true then Oper.wp P o a w K' Q else K' (a.put o.dst undef) w)
    (hs : AllReadyB P md ops Q S T d fuel listed a w rs) : AllReadyB P md ops Q S T d fuel listed a w (i :: rs) := fun j hj => by
  rcases List.mem_cons.1 hj with rfl | hj
  · exact wpOp_step ho (fun K' hK => h K' (fun a w h1 h2 h3 => hK a w ⟨⟨h1, h2⟩, h3⟩))
  · exact hs j hj
theorem wpAnyB_ready {rs : List Nat} {fuel : Nat} {listed : Array Bool} {a : Act} {w : World} (hr : Region.ready md ops listed = rs) (hne : rs ≠ [])
    (h : AllReadyB P md ops Q S T d fuel listed a w rs) : wpAnyB P md ops Q S T d (fuel + 1) listed a w := wpAnyB_all hr hne h
theorem wpAnyB_end {fuel : Nat} {listed : Array Bool} {a : Act} {w : World} (hr : (Region.ready md ops listed).isEmpty = true) (h : Q .normal a w) : wpAnyB P md ops Q S T d fuel listed a w :=
  wpAnyB_done (List.isEmpty_iff.1 hr) h fuel
end
end Go.Proofs.YtcknbkbejifhcaaDoor

namespace Go.Proofs.YtcknbkbejifhcaaDoor
open Go.RowKit

theorem tenDigits (k : Nat) (h : k < 10) : ByteArray.extract ⟨#[48, 49, 50, 51, 52, 53, 54, 55, 56, 57, 97, 98, 99, 100, 101, 102, 103, 104, 105, 106, 107, 108, 109, 110, 111, 112, 113, 114, 115, 116, 117, 118, 119, 120, 121, 122]⟩ k (k + 1) = bs (digT (k : Int)) := by
  have key : ∀ j : Fin 10, ByteArray.extract ⟨#[48, 49, 50, 51, 52, 53, 54, 55, 56, 57, 97, 98, 99, 100, 101, 102, 103, 104, 105, 106, 107, 108, 109, 110, 111, 112, 113, 114, 115, 116, 117, 118, 119, 120, 121, 122]⟩ j.1 (j.1 + 1) = bs (digT (j.1 : Int)) := by decide
  exact key ⟨k, h⟩
set_option maxRecDepth 100000 in
set_option maxHeartbeats 1600000 in
theorem strconv_Itoa (k : Nat) (h : k < 10) (w : World) : Calls Tryd.prog 50 #[.int .i64 (k : Int)] w fun e w' => e = .returned (.string (bs (digT (k : Int)))) ∧ Below w.heap.size w w' := by
  have t1 : decide (0 ≤ (k : Int)) = true := decide_eq_true (by omega)
  have t2 : decide ((k : Int) < 100) = true := decide_eq_true (by omega)
  have t3 : decide ((k : Int) < 10) = true := decide_eq_true (by omega)
  have t2' : decide (k < 100) = true := decide_eq_true (by omega)
  have t3' : decide (k < 10) = true := decide_eq_true (by omega)
  have a1 : IntKind.i64.wrap ((k : Int) + 1) = (k : Int) + 1 := IntWalk.i64_in _ (by omega)
  have g1 : (0 : Int) ≤ (k : Int) := by omega
  have g2 : (k : Int) + 1 ≤ 36 := by omega
  have g3 : (k : Int) ≤ (k : Int) + 1 := by omega
  have g4 : k + 1 ≤ 36 := by omega
  have hf := Lib.hid (tenDigits k h)
  clear h
  go_enter Tryd.func50, Tryd.ntmps50
  go_wp2
  go_ret
  exact ⟨by rw [← hf.out]; rfl, Below.refl _ _⟩

theorem bytes_append_empty (a : ByteArray) : a ++ bs [] = a := tl_inj (by rw [tl_append, tl_bs, List.append_nil])
set_option maxRecDepth 100000 in
set_option maxHeartbeats 1600000 in
theorem impl_typeText (xs : List Dt) (hw : WorldOK xs) (t : Ty) (ht : argOkB xs.length t = true) (w : World) (v : Value) (F : List Nat) (hx : Arr w (DtR w) xs v F) (hf : Under w.heap.size F) :
    Calls Tryd.prog 42 #[v, .agg #[.int .i64 t.d, .int .i64 t.i]] w fun e w' => e = .returned (.string (bs (tyT xs t))) ∧ Below w.heap.size w w' := by
  obtain ⟨A, cap, rfl, hc1, hc2⟩ := hx.form
  have hin := argOkB_in ht
  have HW := Lib.hid hw
  have HX := Lib.hid hx
  have HF := Lib.hid hf
  clear hx hf
  clear hw
  by_cases hd : t.d = -1
  · have t0 : (t.d == -1) = true := by simp [hd]
    have hf : Hid (bs (tyT xs t) = ⟨#[73]⟩) := by unfold Hid tyT; rw [if_pos hd]; rfl
    clear ht hin hd
    go_enter Tryd.func42, Tryd.ntmps42
    go_wp2
    go_ret
    exact ⟨ret_str hf.out.symm, (Below.refl _ _).alloc (Nat.le_refl _) _⟩
  · rcases hin with h | ⟨d, hd2, hdl⟩
    · exact absurd h hd
    have hi : -1 ≤ t.i ∧ t.i ≤ 9 := by
      unfold argOkB at ht
      rw [if_neg hd] at ht
      simp [withinB] at ht
      omega
    obtain ⟨t1, i⟩ := t
    simp only at hd2 hi hd
    subst hd2
    have hf0 : bs (tyT xs ⟨(d : Int), i⟩) = xs[d].name ++ bs (idxT i) := by
      unfold tyT
      rw [if_neg hd]
      simp only
      rw [nameAt_get hdl, ← bs_append, bs_tl]
    have HI : Hid (-1 ≤ i ∧ i ≤ 9) := hi
    have t0 : ((d : Int) == -1) = false := by rw [beq_eq_false_iff_ne]; omega
    clear ht hd hi
    obtain ⟨b, off, rfl⟩ := HX.out.ptr (by omega)
    have g1 : (0 : Int) ≤ (d : Int) := by omega
    have g2 : (d : Int) < (xs.length : Int) := by omega
    have hB0 : Below w.heap.size w (w.alloc (.cells #[.int .i64 (d : Int), .int .i64 i] 44)) := (Below.refl _ _).alloc (Nat.le_refl _) _
    obtain ⟨A1, cap1, G1, hb, c0, c1, HK, HG, hs, hn1, hn2⟩ := ArrDt.at HX.out HF.out hB0 d hdl
    have hns : xs[d].name.size = 1 := dname_len (HW.out.at hdl).name
    have y0 : (w.alloc (.cells #[.int .i64 (d : Int), .int .i64 i] 44)).cell? ⟨w.heap.size, 0, none⟩ = some (.int .i64 (d : Int)) := ((Blk.new w 44 #[.int .i64 (d : Int), .int .i64 i]).cell 0).trans (by simp)
    have y1 : (w.alloc (.cells #[.int .i64 (d : Int), .int .i64 i] 44)).cell? ⟨w.heap.size, 1, none⟩ = some (.int .i64 i) := ((Blk.new w 44 #[.int .i64 (d : Int), .int .i64 i]).cell 1).trans (by simp)
    have klt : w.heap.size < (w.alloc (.cells #[.int .i64 (d : Int), .int .i64 i] 44)).heap.size := by simp
    clear c1 HK HG hn1 hn2 hs
    cases q1 : decide (i > 0) with
    | true =>
      obtain ⟨k, rfl⟩ : ∃ k : Nat, i = (k : Int) := ⟨i.toNat, by have : i > 0 := (by simpa using q1); omega⟩
      have hk : k < 10 := by have := HI.out; omega
      have hkp : 0 < k := by have : (k : Int) > 0 := (by simpa using q1); omega
      have q1' : decide (0 < k) = true := decide_eq_true hkp
      have hf : Hid (bs (tyT xs ⟨(d : Int), (k : Int)⟩) = xs[d].name ++ bs (digT (k : Int))) := by
        unfold Hid; rw [hf0]; unfold idxT; rw [if_neg (by omega), if_neg (by omega)]
      have hds : (bs (digT (k : Int))).size = 1 := by rfl
      clear hf0 hkp
      have hcat : xs[d].name.size + (bs (digT (k : Int))).size ≤ 9223372036854775807 := by omega
      have hcat2 : (xs[d].name.size : Int) + ((bs (digT (k : Int))).size : Int) ≤ 9223372036854775807 := by omega
      have hcat3 : ¬ 9223372036854775807 < (xs[d].name.size : Int) + ((bs (digT (k : Int))).size : Int) := by omega
      have hcat4 : ¬ 9223372036854775807 < xs[d].name.size + (bs (digT (k : Int))).size := by omega
      clear hds hns
      generalize hDD : bs (digT (k : Int)) = DD at *
      have HDD := Lib.hid hDD
      clear hDD
      go_enter Tryd.func42, Tryd.ntmps42
      go_wp2_with fail
      refine wp_region_B (S := fun w' => w'.cell? ⟨w.heap.size, 0, none⟩ = some (.int .i64 (d : Int)) ∧ w'.cell? ⟨w.heap.size, 1, none⟩ = some (.int .i64 (k : Int)) ∧ w'.cell? ⟨b, off + d * 2, none⟩ = some (.string xs[d].name)) (T := fun _ => True) (d := 99) (by kernel_rfl) ?_
      generalize hWA : (w.alloc (.cells #[.int .i64 (d : Int), .int .i64 (k : Int)] 44)) = W2 at *
      clear hWA
      have hS1 : W2.drew.cell? ⟨w.heap.size, 0, none⟩ = some (.int .i64 (d : Int)) ∧ W2.drew.cell? ⟨w.heap.size, 1, none⟩ = some (.int .i64 (k : Int)) ∧ W2.drew.cell? ⟨b, off + d * 2, none⟩ = some (.string xs[d].name) := ⟨y0, y1, c0⟩
      have hT1 : True := trivial
      have hb2 : b < W2.drew.heap.size := hb
      have klt2 : w.heap.size < W2.drew.heap.size := klt
      have hB1 : Below w.heap.size w W2.drew := hB0.drew
      generalize W2.drew = wd at *
      refine wpAnyB_take (i := 0) (v := ?_) rfl (by decide) (by kernel_rfl) (by kernel_rfl) (by kernel_rfl) (fun _ _ _ h => h) (Or.inl ⟨by rfl, ?hy0⟩) hS1 (fun _ => hT1) ?_
      case hy0 => (intro W hSw; obtain ⟨hSa, hSb, hSc⟩ := hSw; (try dsimp only at hSa hSb hSc); go_simp; try with_reducible rfl)
      (try simp only [Act.put, List.getElem_toArray, List.getElem_cons_zero, List.getElem_cons_succ, List.setIfInBounds_toArray, List.set_cons_zero, List.set_cons_succ])
      refine wpAnyB_take (i := 1) (v := ?_) rfl (by decide) (by kernel_rfl) (by kernel_rfl) (by kernel_rfl) (fun _ _ _ h => h) (Or.inl ⟨by rfl, ?hy1⟩) hS1 (fun _ => hT1) ?_
      case hy1 => (intro W hSw; obtain ⟨hSa, hSb, hSc⟩ := hSw; (try dsimp only at hSa hSb hSc); go_simp; try with_reducible rfl)
      (try simp only [Act.put, List.getElem_toArray, List.getElem_cons_zero, List.getElem_cons_succ, List.setIfInBounds_toArray, List.set_cons_zero, List.set_cons_succ])
      refine wpAnyB_take (i := 2) (v := ?_) rfl (by decide) (by kernel_rfl) (by kernel_rfl) (by kernel_rfl) (fun _ _ _ h => h) (Or.inl ⟨by rfl, ?hy2⟩) hS1 (fun _ => hT1) ?_
      case hy2 => (intro W hSw; obtain ⟨hSa, hSb, hSc⟩ := hSw; (try dsimp only at hSa hSb hSc); go_simp; try with_reducible rfl)
      (try simp only [Act.put, List.getElem_toArray, List.getElem_cons_zero, List.getElem_cons_succ, List.setIfInBounds_toArray, List.set_cons_zero, List.set_cons_succ])
      refine wpAnyB_take (i := 3) (v := ?_) rfl (by decide) (by kernel_rfl) (by kernel_rfl) (by kernel_rfl) (fun _ _ _ h => h) (Or.inl ⟨by rfl, ?hy3⟩) hS1 (fun _ => hT1) ?_
      case hy3 => (intro W hSw; obtain ⟨hSa, hSb, hSc⟩ := hSw; (try dsimp only at hSa hSb hSc); go_simp; try with_reducible rfl)
      (try simp only [Act.put, List.getElem_toArray, List.getElem_cons_zero, List.getElem_cons_succ, List.setIfInBounds_toArray, List.set_cons_zero, List.set_cons_succ])
      refine wpAnyB_take (i := 4) (v := ?_) rfl (by decide) (by kernel_rfl) (by kernel_rfl) (by kernel_rfl) (fun _ _ _ h => h) (Or.inl ⟨by rfl, ?hy4⟩) hS1 (fun _ => hT1) ?_
      case hy4 => (intro W hSw; obtain ⟨hSa, hSb, hSc⟩ := hSw; (try dsimp only at hSa hSb hSc); go_simp; try with_reducible rfl)
      (try simp only [Act.put, List.getElem_toArray, List.getElem_cons_zero, List.getElem_cons_succ, List.setIfInBounds_toArray, List.set_cons_zero, List.set_cons_succ])
      refine wpAnyB_take (i := 5) (v := ?_) rfl (by decide) (by kernel_rfl) (by kernel_rfl) (by kernel_rfl) (fun _ _ _ h => h) (Or.inl ⟨by rfl, ?hy5⟩) hS1 (fun _ => hT1) ?_
      case hy5 => (intro W hSw; obtain ⟨hSa, hSb, hSc⟩ := hSw; (try dsimp only at hSa hSb hSc); go_simp; try with_reducible rfl)
      (try simp only [Act.put, List.getElem_toArray, List.getElem_cons_zero, List.getElem_cons_succ, List.setIfInBounds_toArray, List.set_cons_zero, List.set_cons_succ])
      refine wpAnyB_take (i := 6) (v := ?_) rfl (by decide) (by kernel_rfl) (by kernel_rfl) (by kernel_rfl) (fun _ _ _ h => h) (Or.inl ⟨by rfl, ?hy6⟩) hS1 (fun _ => hT1) ?_
      case hy6 => (intro W hSw; obtain ⟨hSa, hSb, hSc⟩ := hSw; (try dsimp only at hSa hSb hSc); go_simp; try with_reducible rfl)
      (try simp only [Act.put, List.getElem_toArray, List.getElem_cons_zero, List.getElem_cons_succ, List.setIfInBounds_toArray, List.set_cons_zero, List.set_cons_succ])
      refine wpAnyB_take (i := 7) (v := ?_) rfl (by decide) (by kernel_rfl) (by kernel_rfl) (by kernel_rfl) (fun _ _ _ h => h) (Or.inl ⟨by rfl, ?hy7⟩) hS1 (fun _ => hT1) ?_
      case hy7 => (intro W hSw; obtain ⟨hSa, hSb, hSc⟩ := hSw; (try dsimp only at hSa hSb hSc); go_simp; try with_reducible rfl)
      (try simp only [Act.put, List.getElem_toArray, List.getElem_cons_zero, List.getElem_cons_succ, List.setIfInBounds_toArray, List.set_cons_zero, List.set_cons_succ])
      refine wpAnyB_ready (rs := [8]) (by kernel_rfl) (by simp) ?_
      refine AllReadyB.cons rfl (fun K hK => ?_) AllReadyB.nil
      go_simp
      go_at_call 50
      with_reducible refine (strconv_Itoa k hk wd).mono ?_
      rintro e w' ⟨rfl, hB'⟩
      rw [HDD.out]
      have hS2 : w'.cell? ⟨w.heap.size, 0, none⟩ = some (.int .i64 (d : Int)) ∧ w'.cell? ⟨w.heap.size, 1, none⟩ = some (.int .i64 (k : Int)) ∧ w'.cell? ⟨b, off + d * 2, none⟩ = some (.string xs[d].name) := ⟨(hB'.cell klt2).trans hS1.1, (hB'.cell klt2).trans hS1.2.1, (hB'.cell hb2).trans hS1.2.2⟩
      dsimp only
      refine hK.out _ _ hS2 (fun _ => trivial) ?_
      clear hK K
      (try simp only [Act.put, List.getElem_toArray, List.getElem_cons_zero, List.getElem_cons_succ, List.setIfInBounds_toArray, List.set_cons_zero, List.set_cons_succ])
      refine wpAnyB_ready (rs := [9]) (by kernel_rfl) (by simp) ?_
      refine AllReadyB.cons rfl (fun K hK => ?_) AllReadyB.nil
      go_simp
      refine hK.out _ _ hS2 (fun _ => trivial) ?_
      clear hK K
      (try simp only [Act.put, List.getElem_toArray, List.getElem_cons_zero, List.getElem_cons_succ, List.setIfInBounds_toArray, List.set_cons_zero, List.set_cons_succ])
      refine wpAnyB_take (i := 10) (v := ?_) rfl (by decide) (by kernel_rfl) (by kernel_rfl) (by kernel_rfl) (fun _ _ _ h => h) (Or.inl ⟨by rfl, ?hy10⟩) hS2 (fun _ => hT1) ?_
      case hy10 => (intro W hSw; obtain ⟨hSa, hSb, hSc⟩ := hSw; (try dsimp only at hSa hSb hSc); go_simp; try with_reducible rfl)
      (try simp only [Act.put, List.getElem_toArray, List.getElem_cons_zero, List.getElem_cons_succ, List.setIfInBounds_toArray, List.set_cons_zero, List.set_cons_succ])
      refine wpAnyB_end (by kernel_rfl) ?_
      have hB3 := hB1.trans (hB'.mono hB1.size)
      clear hS1 hT1 hS2 y0 y1 c0
      go_wp2
      go_ret
      exact ⟨ret_str hf.out.symm, hB3⟩
    | false =>
      have hi0 : ¬ i > 0 := by simpa using q1
      cases q2 : (i == -1) with
      | true =>
        have hi1 : i = -1 := beq_iff_eq.1 q2
        have hf : Hid (bs (tyT xs ⟨(d : Int), i⟩) = xs[d].name ++ ⟨#[42]⟩) := by
          unfold Hid; rw [hf0]; unfold idxT; rw [if_neg (by omega), if_pos hi1]; rfl
        have hcat : xs[d].name.size + 1 ≤ 9223372036854775807 := by omega
        have hcat2 : (xs[d].name.size : Int) + 1 ≤ 9223372036854775807 := by omega
        have hcat3 : ¬ 9223372036854775807 < (xs[d].name.size : Int) + 1 := by omega
        have hcat4 : ¬ 9223372036854775807 < xs[d].name.size + 1 := by omega
        clear hf0 hi0 hi1 hns
        go_enter Tryd.func42, Tryd.ntmps42
        go_wp2
        go_ret
        exact ⟨ret_str hf.out.symm, hB0⟩
      | false =>
        have hi1 : i = 0 := by rw [beq_eq_false_iff_ne] at q2; have := HI.out; omega
        have hf : Hid (bs (tyT xs ⟨(d : Int), i⟩) = xs[d].name) := by
          unfold Hid; rw [hf0]; unfold idxT; rw [if_pos hi1]; exact bytes_append_empty _
        clear hf0 hi0 hi1
        go_enter Tryd.func42, Tryd.ntmps42
        go_wp2
        go_ret
        exact ⟨ret_str hf.out.symm, hB0⟩

/-- the text of a type, empty where it is none -/
def fmtTy (xs : List Dt) (t : Ty) : ByteArray := if typeValidB xs t = true then bs (tyT xs t) else ⟨#[]⟩
theorem fmtTy_yes {xs : List Dt} {t : Ty} (h : typeValidB xs t = true) : fmtTy xs t = bs (tyT xs t) := if_pos h
theorem fmtTy_no {xs : List Dt} {t : Ty} (h : typeValidB xs t = false) : fmtTy xs t = ⟨#[]⟩ := if_neg (by simp [h])

theorem typeOkB_toArg {n : Int} {t : Ty} (h : typeOkB n t = true) : argOkB n t = true := by
  rw [← typeOkB_arg, Bool.and_eq_true] at h
  exact h.1
set_option maxRecDepth 100000 in
set_option maxHeartbeats 1600000 in
theorem impl_FormatType (xs : List Dt) (t : Ty) (w : World) (v : Value) (F : List Nat) (hx : Arr w (DtR w) xs v F) (hf : Under w.heap.size F) :
    Calls Tryd.prog 19 #[v, .agg #[.int .i64 t.d, .int .i64 t.i]] w fun e w' => e = .returned (.string (fmtTy xs t)) ∧ Below w.heap.size w w' := by
  obtain ⟨A, cap, rfl, hc1, hc2⟩ := hx.form
  have HX := Lib.hid hx
  have HF := Lib.hid hf
  clear hx hf
  go_enter Tryd.func19, Tryd.ntmps19
  go_wp2_with fail
  obtain ⟨W2, hW2⟩ : ∃ W2, W2 = w.alloc (.cells #[.int .i64 t.d, .int .i64 t.i] 44) := ⟨_, rfl⟩
  have hB2 : Below w.heap.size w W2 := by rw [hW2]; exact (Below.refl _ _).alloc (Nat.le_refl _) _
  have k1 : Blk W2 w.heap.size 44 #[.int .i64 t.d, .int .i64 t.i] := by rw [hW2]; exact Blk.new _ _ _
  rw [← hW2]
  clear hW2
  refine (impl_TypeValid xs t W2 _ F (ArrDt.below HX.out hB2 HF.out) (HF.out.mono hB2.size)).mono ?_
  rintro e w' ⟨rfl, hB'⟩
  have hB3 := hB2.trans (hB'.mono hB2.size)
  have k2 := k1.same (hB'.block _ k1.lt)
  have x0 : w'.cell? ⟨w.heap.size, 0, none⟩ = some (.int .i64 t.d) := (k2.cell 0).trans (by simp)
  have x1 : w'.cell? ⟨w.heap.size, 1, none⟩ = some (.int .i64 t.i) := (k2.cell 1).trans (by simp)
  have hlt := k2.lt
  clear k1 k2
  cases h1 : typeValidB xs t with
  | false =>
    have hf := Lib.hid (fmtTy_no h1)
    clear h1
    go_wp2
    go_ret
    exact ⟨ret_str hf.out.symm, hB3⟩
  | true =>
    have hf := Lib.hid (fmtTy_yes h1)
    obtain ⟨hw, hto⟩ := typeValid_split h1
    have HW := Lib.hid hw
    have HT := Lib.hid (typeOkB_toArg hto)
    clear h1 hw hto
    go_wp2_with fail
    refine (impl_typeText xs HW.out t HT.out w' _ F (ArrDt.below HX.out hB3 HF.out) (HF.out.mono hB3.size)).mono ?_
    rintro e w2 ⟨rfl, hB4⟩
    have hB5 := hB3.trans (hB4.mono hB3.size)
    rw [← hf.out]
    go_wp2
    go_ret
    exact ⟨rfl, hB5⟩
set_option maxRecDepth 100000 in
set_option maxHeartbeats 1600000 in
theorem spec_FormatType (xs : List Dt) (t : Ty) (w : World) (v : Value) (F : List Nat) (hx : Arr w (DtR w) xs v F) (hf : Under w.heap.size F) :
    Calls Tryd.prog 16 #[v, .agg #[.int .i64 t.d, .int .i64 t.i]] w fun e w' => e = .returned (.string (fmtTy xs t)) ∧ Below w.heap.size w w' := by
  obtain ⟨A, cap, rfl, hc1, hc2⟩ := hx.form
  have HX := Lib.hid hx
  have HF := Lib.hid hf
  clear hx hf
  go_enter Tryd.func16, Tryd.ntmps16
  go_wp2_with fail
  obtain ⟨W2, hW2⟩ : ∃ W2, W2 = w.alloc (.cells #[.int .i64 t.d, .int .i64 t.i] 44) := ⟨_, rfl⟩
  have hB2 : Below w.heap.size w W2 := by rw [hW2]; exact (Below.refl _ _).alloc (Nat.le_refl _) _
  have k1 : Blk W2 w.heap.size 44 #[.int .i64 t.d, .int .i64 t.i] := by rw [hW2]; exact Blk.new _ _ _
  rw [← hW2]
  clear hW2
  refine (spec_TypeValid xs t W2 _ F (ArrDt.below HX.out hB2 HF.out) (HF.out.mono hB2.size)).mono ?_
  rintro e w' ⟨rfl, hB'⟩
  have hB3 := hB2.trans (hB'.mono hB2.size)
  have k2 := k1.same (hB'.block _ k1.lt)
  have x0 : w'.cell? ⟨w.heap.size, 0, none⟩ = some (.int .i64 t.d) := (k2.cell 0).trans (by simp)
  have x1 : w'.cell? ⟨w.heap.size, 1, none⟩ = some (.int .i64 t.i) := (k2.cell 1).trans (by simp)
  have hlt := k2.lt
  clear k1 k2
  cases h1 : typeValidB xs t with
  | false =>
    have hf := Lib.hid (fmtTy_no h1)
    clear h1
    go_wp2
    go_ret
    exact ⟨ret_str hf.out.symm, hB3⟩
  | true =>
    have hf := Lib.hid (fmtTy_yes h1)
    obtain ⟨hw, hto⟩ := typeValid_split h1
    have HW := Lib.hid hw
    have HT := Lib.hid (typeOkB_toArg hto)
    clear h1 hw hto
    go_wp2_with fail
    refine (spec_l1Type xs HW.out t HT.out w' _ F (ArrDt.below HX.out hB3 HF.out) (HF.out.mono hB3.size)).mono ?_
    rintro e w2 ⟨rfl, hB4⟩
    have hB5 := hB3.trans (hB4.mono hB3.size)
    rw [← hf.out]
    go_wp2
    go_ret
    exact ⟨rfl, hB5⟩
end Go.Proofs.YtcknbkbejifhcaaDoor

namespace Go.Proofs.YtcknbkbejifhcaaDoor
open Go.ChangeShapes Go.WideShapes Go.ChangeAt Go.RowKit

section
variable {H : Type} {enc : TypeId × Value → H} {P : Program} {w : World} {base : Nat} {spare : Nat → Bool} {held : Bool}

theorem cell_lt {w : World} {a : Addr} {v : Value} (h : w.cell? a = some v) : a.block < w.heap.size := by
  rcases Nat.lt_or_ge a.block w.heap.size with hl | hl
  · exact hl
  · unfold World.cell? at h
    rw [Array.getElem?_eq_none hl] at h
    cases h

theorem open_Arr {α : Type} (R : α → List Value → List Nat → Prop) {t e : TypeId} {k n fuel : Nat} {cs : List Value} {x : DataW H × List MemPlace} (ht : P.underlying t = some (.slice e)) (hk : P.cellsOf e = k) (hk0 : 0 < k) (hf : fuel = n + 1)
    (hR : ∀ ds y, DataW.trod enc P w base spare held n e ds = some y → ds.length = k → ∃ a F, R a ds F ∧ Under w.heap.size F)
    (h : DataW.trod enc P w base spare held fuel t cs = some x) : ∃ xs v F, cs = [v] ∧ Arr w R xs v F ∧ Under w.heap.size F := by
  subst hf
  rcases DataW.trod_slice ht h with ⟨rfl, -⟩ | ⟨a, len, cap, elems, rest, m, hm, rfl, -, -, hl, hmax, hlen, hel, -, -⟩
  · exact ⟨[], _, [], rfl, Arr.nil, Under.nil _⟩
  · obtain rfl : n = m := by omega
    by_cases h0 : len = 0
    · subst h0
      exact ⟨[], _, [], rfl, ⟨_, _, rfl, hl, hmax, .inl ⟨rfl, rfl⟩⟩, Under.nil _⟩
    · have get : ∀ i, i < len → ∃ ds y, (∀ j, j < k → w.cell? (a.add (i * k + j)) = ds[j]?) ∧ ds.length = k ∧ DataW.trod enc P w base spare held n e ds = some y := fun i hi => by
        have h1 := hel i hi
        rw [List.getElem?_eq_getElem (by omega), Option.bind_eq_some_iff] at h1
        obtain ⟨ds, h2, h3⟩ := h1
        obtain ⟨-, h4, h5⟩ := World.cells?_some h2
        rw [hk] at h4 h5
        refine ⟨ds, _, fun j hj => ?_, h4, h3⟩
        rw [← h5 j hj]
        congr 1
        unfold Addr.add
        by_cases e1 : i * k = 0 <;> by_cases e2 : j = 0 <;> simp [e1, e2, Nat.add_assoc]
      obtain ⟨b, off, spot⟩ := a
      obtain ⟨ds0, y0, g1, g2, -⟩ := get 0 (by omega)
      have hc0 : w.cell? ⟨b, off, spot⟩ = some (ds0[0]'(by omega)) := by
        have := g1 0 hk0
        simpa [Addr.add, List.getElem?_eq_getElem (show 0 < ds0.length by omega)] using this
      have hspot : spot = none := by simpa using World.cell?_spot hc0
      subst hspot
      have hb : b < w.heap.size := cell_lt hc0
      have key : ∀ m, m ≤ len → ∃ (xs : List α) (cs : List Value) (F : List Nat), xs.length = m ∧ cs.length = m * k ∧ CellsAt w b off cs ∧ Flat R xs cs F ∧ Under w.heap.size F := by
        intro m
        induction m with
        | zero => intro _; exact ⟨[], [], [], rfl, by simp, fun j u hj => by simp at hj, ⟨rfl, rfl⟩, Under.nil _⟩
        | succ m ih =>
          intro hm
          obtain ⟨xs, cs, F, h1, h2, h3, h4, h5⟩ := ih (by omega)
          obtain ⟨ds, y, g1, g2, g3⟩ := get m (by omega)
          obtain ⟨z, G, r1, r2⟩ := hR ds y g3 g2
          refine ⟨xs ++ [z], cs ++ ds, F ++ G, by simp [h1], by simp [h2, g2, Nat.add_mul], h3.append (fun j u hj => ?_), h4.append (Flat.one r1), fun c hc => ?_⟩
          · have hjk : j < k := by rw [← g2]; exact (List.getElem?_eq_some_iff.1 hj).1
            have := g1 j hjk
            rw [hj, Addr.add_lit] at this
            rw [h2, ← this]
            congr 2
            omega
          · rcases List.mem_append.1 hc with hc | hc
            · exact h5 c hc
            · exact r2 c hc
      obtain ⟨xs, cs, F, h1, h2, h3, h4, h5⟩ := key len (Nat.le_refl _)
      refine ⟨xs, _, b :: F, rfl, ⟨_, _, by rw [h1], by omega, hmax, .inr ⟨b, off, cs, F, rfl, h3, h4, rfl⟩⟩, fun c hc => ?_⟩
      rcases List.mem_cons.1 hc with rfl | hc
      · exact hb
      · exact h5 c hc

theorem one_field {fs : Array Field} {n : Nat} {cs : List Value} {xs : List (DataW H × List MemPlace)}
    (hf : ∀ (i : Nat) (f : Field), fs[i]? = some f → DataW.trod enc P w base spare held n f.type ((cs.drop f.offset).take (P.cellsOf f.type)) = xs[i]?)
    (hone : Deep.oneCellFields P fs = true) (hxl : xs.length = fs.size) (i : Nat) (f : Field) (hi : fs[i]? = some f) (c : Value) (hc : cs[i]? = some c) :
    ∃ y, DataW.trod enc P w base spare held n f.type [c] = some y := by
  obtain ⟨h1, h2⟩ := Deep.hone_of hone i f hi
  have h := hf i f hi
  have hlt : i < fs.size := (Array.getElem?_eq_some_iff.1 hi).1
  rw [List.getElem?_eq_getElem (show i < xs.length by omega), h1, h2] at h
  obtain ⟨hlc, hcc⟩ := List.getElem?_eq_some_iff.1 hc
  rw [List.drop_eq_getElem_cons hlc, hcc] at h
  exact ⟨_, h⟩

theorem sub_field {fs : Array Field} {n : Nat} {cs : List Value} {xs : List (DataW H × List MemPlace)}
    (hf : ∀ (i : Nat) (f : Field), fs[i]? = some f → DataW.trod enc P w base spare held n f.type ((cs.drop f.offset).take (P.cellsOf f.type)) = xs[i]?)
    (hxl : xs.length = fs.size) (i : Nat) (f : Field) (hi : fs[i]? = some f) (k off : Nat) (hk : P.cellsOf f.type = k) (ho : f.offset = off) :
    ∃ y, DataW.trod enc P w base spare held n f.type ((cs.drop off).take k) = some y := by
  have h := hf i f hi
  have hlt : i < fs.size := (Array.getElem?_eq_some_iff.1 hi).1
  rw [List.getElem?_eq_getElem (show i < xs.length by omega), hk, ho] at h
  exact ⟨_, h⟩

theorem open_slice_arg {α : Type} (R : α → List Value → List Nat → Prop) {t e : TypeId} {k : Nat} {r : Reach} {b0 : Nat} {v : Value} {d : DataW H} {ps : List MemPlace} (ht : P.underlying t = some (.slice e)) (hk : P.cellsOf e = k) (hk0 : 0 < k)
    (hR : ∀ n ds y, DataW.trod enc P w base spare held n e ds = some y → ∃ a F, R a ds F ∧ Under w.heap.size F)
    (hval : Value.okWide P w r b0 t v) (h : DataW.Trod enc P w base spare held t v d ps) : ∃ xs F, Arr w R xs v F ∧ Under w.heap.size F := by
  obtain ⟨a, len, cap, rfl⟩ := okWide_slice ht hval
  obtain ⟨fuel, hf⟩ := h
  cases fuel with
  | zero => simp [DataW.trod] at hf
  | succ n =>
    obtain ⟨xs, v, F, hv, ha, hF⟩ := open_Arr R ht hk hk0 rfl (fun ds y hd _ => hR n ds y hd) hf
    have : v = .slice a len cap := by simpa [Value.cells] using hv.symm
    subst this
    exact ⟨xs, F, ha, hF⟩
end
end Go.Proofs.YtcknbkbejifhcaaDoor

namespace Go.Proofs.YtcknbkbejifhcaaDoor
open Go.ChangeShapes Go.WideShapes Go.ChangeAt Go.RowKit
set_option maxRecDepth 100000

theorem cellsOf_lawsTy : Tryd.prog.cellsOf 40 = 2 := by kernel_rfl

theorem open_Ty_cells {H : Type} {enc : TypeId × Value → H} {w : World} {base : Nat} {spare : Nat → Bool} {held : Bool} (fuel : Nat) (cs : List Value) (x : DataW H × List MemPlace)
    (h : DataW.trod enc Tryd.prog w base spare held fuel 40 cs = some x) : ∃ v F, TyR w v cs F ∧ Under w.heap.size F := by
  obtain ⟨xs, n, rfl, -, hl, hxl, hf⟩ := DataW.trod_struct Tryd.underlying40 h
  rw [cellsOf_lawsTy] at hl
  match cs, hl with
  | [c0, c1], _ =>
  obtain ⟨y0, f0⟩ := sub_field hf hxl 0 _ rfl 1 0 (by kernel_rfl) rfl
  obtain ⟨i0, e0, -, -⟩ := DataW.trod_int Tryd.underlying3 f0
  obtain rfl : c0 = .int .i64 i0 := by simpa using e0
  obtain ⟨y1, f1⟩ := sub_field hf hxl 1 _ rfl 1 1 (by kernel_rfl) rfl
  obtain ⟨i1, e1, -, -⟩ := DataW.trod_int Tryd.underlying3 f1
  obtain rfl : c1 = .int .i64 i1 := by simpa using e1
  exact ⟨⟨i0, i1⟩, [], ⟨rfl, rfl⟩, Under.nil _⟩

theorem open_Ty {H : Type} {enc : TypeId × Value → H} {w : World} {base : Nat} {spare : Nat → Bool} {held : Bool} {r : Reach} {b0 : Nat} {v : Value} {d : DataW H} {ps : List MemPlace} (hval : Value.okWide Tryd.prog w r b0 40 v)
    (h : DataW.Trod enc Tryd.prog w base spare held 40 v d ps) : ∃ (x : Ty) (cs : List Value) (F : List Nat), v = .agg cs.toArray ∧ TyR w x cs F ∧ Under w.heap.size F := by
  obtain ⟨cs, rfl, -⟩ := okWide_struct Tryd.underlying40 hval
  obtain ⟨fuel, hf⟩ := h
  obtain ⟨x, F, h1, h2⟩ := open_Ty_cells fuel _ _ hf
  exact ⟨x, cs.toList, F, by simp, h1, h2⟩
theorem open_Tys {H : Type} {enc : TypeId × Value → H} {w : World} {base : Nat} {spare : Nat → Bool} {held : Bool} {r : Reach} {b0 : Nat} {v : Value} {d : DataW H} {ps : List MemPlace} (hval : Value.okWide Tryd.prog w r b0 101 v)
    (h : DataW.Trod enc Tryd.prog w base spare held 101 v d ps) : ∃ (x : List Ty) (F : List Nat), Arr w (TyR w) x v F ∧ Under w.heap.size F :=
  open_slice_arg (TyR w) Tryd.underlying101 cellsOf_lawsTy (by decide) (fun n ds y hd => open_Ty_cells n ds y hd) hval h
end Go.Proofs.YtcknbkbejifhcaaDoor

namespace Go.Proofs.YtcknbkbejifhcaaDoor
open Go.ChangeShapes Go.WideShapes Go.ChangeAt Go.RowKit
set_option maxRecDepth 100000

theorem cellsOf_lawsKt : Tryd.prog.cellsOf 103 = 3 := by kernel_rfl

theorem open_Kt_cells {H : Type} {enc : TypeId × Value → H} {w : World} {base : Nat} {spare : Nat → Bool} {held : Bool} (fuel : Nat) (cs : List Value) (x : DataW H × List MemPlace)
    (h : DataW.trod enc Tryd.prog w base spare held fuel 103 cs = some x) : ∃ v F, KtR w v cs F ∧ Under w.heap.size F := by
  obtain ⟨xs, n, rfl, -, hl, hxl, hf⟩ := DataW.trod_struct Tryd.underlying103 h
  rw [cellsOf_lawsKt] at hl
  match cs, hl with
  | [c0, c1, c2], _ =>
  obtain ⟨y0, f0⟩ := sub_field hf hxl 0 _ rfl 1 0 (by kernel_rfl) rfl
  obtain ⟨s0, e0, -, hs0⟩ := DataW.trod_string Tryd.underlying9 f0
  obtain rfl : c0 = .string s0 := by simpa using e0
  obtain ⟨y1, f1⟩ := sub_field hf hxl 1 _ rfl 1 1 (by kernel_rfl) rfl
  cases n with
  | zero => simp [DataW.trod] at f1
  | succ n =>
  obtain ⟨l1, kv, F, ek, ha, hF⟩ := open_Arr (TyR w) Tryd.underlying101 cellsOf_lawsTy (by decide) rfl (fun ds y hd _ => open_Ty_cells n ds y hd) f1
  obtain rfl : c1 = kv := by simpa using ek
  obtain ⟨y2, f2⟩ := sub_field hf hxl 2 _ rfl 1 2 (by kernel_rfl) rfl
  obtain ⟨i2, e2, -, -⟩ := DataW.trod_int Tryd.underlying3 f2
  obtain rfl : c2 = .int .i64 i2 := by simpa using e2
  exact ⟨⟨s0, l1, i2⟩, F, ⟨_, rfl, ha, (by unfold maxLen at hs0; omega)⟩, hF⟩

theorem open_Kt {H : Type} {enc : TypeId × Value → H} {w : World} {base : Nat} {spare : Nat → Bool} {held : Bool} {r : Reach} {b0 : Nat} {v : Value} {d : DataW H} {ps : List MemPlace} (hval : Value.okWide Tryd.prog w r b0 103 v)
    (h : DataW.Trod enc Tryd.prog w base spare held 103 v d ps) : ∃ (x : Kt) (cs : List Value) (F : List Nat), v = .agg cs.toArray ∧ KtR w x cs F ∧ Under w.heap.size F := by
  obtain ⟨cs, rfl, -⟩ := okWide_struct Tryd.underlying103 hval
  obtain ⟨fuel, hf⟩ := h
  obtain ⟨x, F, h1, h2⟩ := open_Kt_cells fuel _ _ hf
  exact ⟨x, cs.toList, F, by simp, h1, h2⟩
theorem open_Kts {H : Type} {enc : TypeId × Value → H} {w : World} {base : Nat} {spare : Nat → Bool} {held : Bool} {r : Reach} {b0 : Nat} {v : Value} {d : DataW H} {ps : List MemPlace} (hval : Value.okWide Tryd.prog w r b0 65 v)
    (h : DataW.Trod enc Tryd.prog w base spare held 65 v d ps) : ∃ (x : List Kt) (F : List Nat), Arr w (KtR w) x v F ∧ Under w.heap.size F :=
  open_slice_arg (KtR w) Tryd.underlying65 cellsOf_lawsKt (by decide) (fun n ds y hd => open_Kt_cells n ds y hd) hval h
end Go.Proofs.YtcknbkbejifhcaaDoor

namespace Go.Proofs.YtcknbkbejifhcaaDoor
open Go.ChangeShapes Go.WideShapes Go.ChangeAt Go.RowKit
set_option maxRecDepth 100000

theorem cellsOf_lawsDt : Tryd.prog.cellsOf 67 = 2 := by kernel_rfl

theorem open_Dt_cells {H : Type} {enc : TypeId × Value → H} {w : World} {base : Nat} {spare : Nat → Bool} {held : Bool} (fuel : Nat) (cs : List Value) (x : DataW H × List MemPlace)
    (h : DataW.trod enc Tryd.prog w base spare held fuel 67 cs = some x) : ∃ v F, DtR w v cs F ∧ Under w.heap.size F := by
  obtain ⟨xs, n, rfl, -, hl, hxl, hf⟩ := DataW.trod_struct Tryd.underlying67 h
  rw [cellsOf_lawsDt] at hl
  match cs, hl with
  | [c0, c1], _ =>
  obtain ⟨y0, f0⟩ := sub_field hf hxl 0 _ rfl 1 0 (by kernel_rfl) rfl
  obtain ⟨s0, e0, -, hs0⟩ := DataW.trod_string Tryd.underlying9 f0
  obtain rfl : c0 = .string s0 := by simpa using e0
  obtain ⟨y1, f1⟩ := sub_field hf hxl 1 _ rfl 1 1 (by kernel_rfl) rfl
  cases n with
  | zero => simp [DataW.trod] at f1
  | succ n =>
  obtain ⟨l1, kv, F, ek, ha, hF⟩ := open_Arr (KtR w) Tryd.underlying65 cellsOf_lawsKt (by decide) rfl (fun ds y hd _ => open_Kt_cells n ds y hd) f1
  obtain rfl : c1 = kv := by simpa using ek
  exact ⟨⟨s0, l1⟩, F, ⟨_, rfl, ha, (by unfold maxLen at hs0; omega)⟩, hF⟩

theorem open_Dt {H : Type} {enc : TypeId × Value → H} {w : World} {base : Nat} {spare : Nat → Bool} {held : Bool} {r : Reach} {b0 : Nat} {v : Value} {d : DataW H} {ps : List MemPlace} (hval : Value.okWide Tryd.prog w r b0 67 v)
    (h : DataW.Trod enc Tryd.prog w base spare held 67 v d ps) : ∃ (x : Dt) (cs : List Value) (F : List Nat), v = .agg cs.toArray ∧ DtR w x cs F ∧ Under w.heap.size F := by
  obtain ⟨cs, rfl, -⟩ := okWide_struct Tryd.underlying67 hval
  obtain ⟨fuel, hf⟩ := h
  obtain ⟨x, F, h1, h2⟩ := open_Dt_cells fuel _ _ hf
  exact ⟨x, cs.toList, F, by simp, h1, h2⟩
theorem open_Dts {H : Type} {enc : TypeId × Value → H} {w : World} {base : Nat} {spare : Nat → Bool} {held : Bool} {r : Reach} {b0 : Nat} {v : Value} {d : DataW H} {ps : List MemPlace} (hval : Value.okWide Tryd.prog w r b0 38 v)
    (h : DataW.Trod enc Tryd.prog w base spare held 38 v d ps) : ∃ (x : List Dt) (F : List Nat), Arr w (DtR w) x v F ∧ Under w.heap.size F :=
  open_slice_arg (DtR w) Tryd.underlying38 cellsOf_lawsDt (by decide) (fun n ds y hd => open_Dt_cells n ds y hd) hval h
end Go.Proofs.YtcknbkbejifhcaaDoor
