/-
  Lemmas and contracts of functions: l2Fits of the reference: a value fits a type. Conditions: the world is valid, the depth is no more than 10. A node of a tree under construction, as in Kid: its kids' row may begin anywhere behind the node. Values as nodes. Conditions: none. Patterns as Lean data, and how they lie in memory. Conditions: none. The pattern that only a value matches, in plain Lean. Conditions: none. The pattern of a value: the walks of both functions. Conditions: no more than a million nodes. Copies of values: the contract. Conditions: none. ValuesUpTo: what it gives. Conditions: none. l1Slot, l1Depth, l1Most of the reference: depths by a table. Conditions: the world is valid, the entries are small. depths.of and depths.ofCtor of the program. Conditions: the world is valid, the entries are small. l1Table of the reference. Conditions: the world is valid. depthsOf of the program. Conditions: the world is valid. LeastDepth and Inhabited of both. Conditions: none. Values up to a depth: they are valid and ascend, those of less depth are among them, there is one where the table says so. Conditions: none. ValueSame of the program, by slices.EqualFunc: equality of Values. Conditions: none. How many values a type has up to a depth, as the program counts them. Conditions: the world is valid. append of a whole slice that came in, with what its elements lead to. Conditions: none. slices.ContainsFunc over types, with the closure of values; slices.Clone over values. Conditions: the world is valid.
-/
import Derived.Test.YtilndhmegaccmaaKAE
import Derived.Deep.RegionHeld3
import Derived.Deep.RegionWith
import Derived.Deep.QuietTactic
import Derived.BigQuiet
import Derived.IntWalk
import Derived.Test.YtilndhmegaccmaaKAA
import Derived.Test.YtilndhmegaccmaaKAD
import Derived.Test.YtilndhmegaccmaaKAC
import Derived.WalkLawsBesides
import Derived.Laws.OwnMore
import Derived.Deep.LoopGhost
import Derived.Test.YtilndhmegaccmaaKAB
import Derived.Lib.SliceRun

set_option linter.unusedVariables false
set_option linter.unusedSimpArgs false

namespace Go.Proofs.Ytilndhmegaccmaa
open Go.RowKit

/-- contract of l2Fits at one value -/
def FitsS (v : V) : Prop := ∀ (xs : List Dt) (_ : WorldOK xs) (d : Nat) (_ : d ≤ 10) (t : Ty) (_ : TyIn xs.length t) (w : World) (x : Value) (F : List Nat) (cs : List Value) (G : List Nat), Arr w (DtR w) xs x F → Under w.heap.size F → VR w v cs G → Under w.heap.size G →
  Calls Try.prog 127 #[x, .agg #[.int .i64 t.d, .int .i64 t.i], .agg cs.toArray, .int .i64 (d : Int)] w fun e w' => e = .returned (.bool (fitsV xs d t v)) ∧ Below w.heap.size w w'
set_option maxRecDepth 100000 in
set_option maxHeartbeats 1600000 in
theorem l2Fits_of (v : V) (ih : ∀ k ∈ v.ks, FitsS k) : FitsS v := by
  intro xs hw d hd t ht w x F cs G hx hf hv hg
  obtain ⟨kv, rfl, ha⟩ := (VR_iff _ _ _).1 hv
  obtain ⟨A, cap, rfl, hc1, hc2⟩ := hx.form
  obtain ⟨A4, cap4, rfl, hc3, hc4⟩ := ha.form
  have HW := Lib.hid hw
  have IH := Lib.hid ih
  have HX := Lib.hid hx
  have HF := Lib.hid hf
  have HA := Lib.hid ha
  have HG := Lib.hid hg
  clear hx hf ha hg
  clear hw ih hv
  cases d with
  | zero =>
    go_enter Try.func127, Try.ntmps127
    go_wp2
    go_ret
    exact ⟨ret_bool rfl, ((Below.refl _ _).alloc (Nat.le_refl _) _).alloc (by simp) _⟩
  | succ d =>
  have hd1 : decide (((d + 1 : Nat) : Int) < 1) = false := by simp; omega
  have hde : ((d + 1 : Nat) : Int) = (d : Int) + 1 := by omega
  rw [hde] at hd1 ⊢
  clear hde
  rcases ht with ht | ⟨q, r, rfl, hql, hrl⟩
  · have t0 : (t.d == -1) = true := by simp [ht]
    have hB0 : Below w.heap.size w ((w.alloc (.cells #[.int .i64 t.d, .int .i64 t.i] 32)).alloc (.cells #[.int .i64 v.c, .int .i64 v.n, .slice A4 v.ks.length cap4] 53)) := ((Below.refl _ _).alloc (Nat.le_refl _) _).alloc (by simp) _
    have hfi := fitsV_int (xs := xs) (d := d) (v := v) ht
    unfold isNum at hfi
    cases q0 : (v.c == -1) with
    | false =>
      have hf : Hid (fitsV xs (d + 1) t v = false) := by rw [hfi, q0]; rfl
      clear hfi
      go_enter Try.func127, Try.ntmps127
      go_wp2
      go_ret
      exact ⟨ret_bool hf.out.symm, ((Below.refl _ _).alloc (Nat.le_refl _) _).alloc (by simp) _⟩
    | true =>
      cases q1 : withinB v.n 0 9 with
      | false =>
        have hf : Hid (fitsV xs (d + 1) t v = false) := by rw [hfi, q0, q1]; rfl
        clear hfi
        by_cases h0 : 0 ≤ v.n
        · have t1 : decide (v.n ≥ 0) = true := by simpa using h0
          have t2 : decide (v.n ≤ 9) = false := by
            have : ¬ (0 ≤ v.n ∧ v.n ≤ 9) := fun h => by rw [(withinB_iff _ _ _).2 h] at q1; cases q1
            simp; omega
          clear q1
          go_enter Try.func127, Try.ntmps127
          go_wp2
          go_ret
          exact ⟨ret_bool hf.out.symm, ((Below.refl _ _).alloc (Nat.le_refl _) _).alloc (by simp) _⟩
        · have t1 : decide (v.n ≥ 0) = false := by simpa using h0
          clear q1
          go_enter Try.func127, Try.ntmps127
          go_wp2
          go_ret
          exact ⟨ret_bool hf.out.symm, ((Below.refl _ _).alloc (Nat.le_refl _) _).alloc (by simp) _⟩
      | true =>
        by_cases q2 : v.ks.length = 0
        · have hf : Hid (fitsV xs (d + 1) t v = true) := by rw [hfi, q0, q1, decide_eq_true q2]; rfl
          have t3 : ((v.ks.length : Int) == 0) = true := by simp [q2]
          clear hfi
          have hq := (withinB_iff _ _ _).1 q1
          have t1 : decide (v.n ≥ 0) = true := by simp; omega
          have t2 : decide (v.n ≤ 9) = true := by simp; omega
          clear q1
          go_enter Try.func127, Try.ntmps127
          go_wp2
          go_ret
          exact ⟨ret_bool hf.out.symm, ((Below.refl _ _).alloc (Nat.le_refl _) _).alloc (by simp) _⟩
        · have hf : Hid (fitsV xs (d + 1) t v = false) := by rw [hfi, q0, q1, decide_eq_false q2]; rfl
          have t3 : ((v.ks.length : Int) == 0) = false := by simp; simpa using q2
          clear hfi
          have hq := (withinB_iff _ _ _).1 q1
          have t1 : decide (v.n ≥ 0) = true := by simp; omega
          have t2 : decide (v.n ≤ 9) = true := by simp; omega
          clear q1
          go_enter Try.func127, Try.ntmps127
          go_wp2
          go_ret
          exact ⟨ret_bool hf.out.symm, ((Below.refl _ _).alloc (Nat.le_refl _) _).alloc (by simp) _⟩
  · have t0 : ((q : Int) == -1) = false := by rw [beq_eq_false_iff_ne]; omega
    have hfd := fitsV_data (xs := xs) (d := d) (v := v) (t := ⟨(q : Int), (r : Int)⟩) (by show ¬ ((q : Int) = -1); omega)
    have HFD := Lib.hid hfd
    clear hfd
    go_enter Try.func127, Try.ntmps127
    go_wp2_with fail
    obtain ⟨W2, hW2⟩ : ∃ W2, W2 = ((w.alloc (.cells #[.int .i64 (q : Int), .int .i64 (r : Int)] 32)).alloc (.cells #[.int .i64 v.c, .int .i64 v.n, .slice A4 v.ks.length cap4] 53)) := ⟨_, rfl⟩
    have hB0 : Below w.heap.size w W2 := by rw [hW2]; exact ((Below.refl _ _).alloc (Nat.le_refl _) _).alloc (by simp) _
    have KT : Hid (Blk W2 w.heap.size 32 #[.int .i64 (q : Int), .int .i64 (r : Int)]) := by rw [hW2]; exact (Blk.new w _ _).same (Below.heap_alloc _ _ _ (by simp))
    have KV : Hid (Blk W2 (w.heap.size + 1) 53 #[.int .i64 v.c, .int .i64 v.n, .slice A4 v.ks.length cap4]) := by rw [hW2]; have h := Blk.new (w.alloc (.cells #[.int .i64 (q : Int), .int .i64 (r : Int)] 32)) 53 #[.int .i64 v.c, .int .i64 v.n, .slice A4 v.ks.length cap4]; rw [World.size_alloc] at h; exact h
    rw [← hW2]
    clear hW2
    have y0 : W2.cell? ⟨w.heap.size, 0, none⟩ = some (.int .i64 (q : Int)) := (KT.out.cell 0).trans (by simp)
    have y1 : W2.cell? ⟨w.heap.size, 1, none⟩ = some (.int .i64 (r : Int)) := (KT.out.cell 1).trans (by simp)
    have z0 : W2.cell? ⟨w.heap.size + 1, 0, none⟩ = some (.int .i64 v.c) := (KV.out.cell 0).trans (by simp)
    have z1 : W2.cell? ⟨w.heap.size + 1, 1, none⟩ = some (.int .i64 v.n) := (KV.out.cell 1).trans (by simp)
    have z2 : W2.cell? ⟨w.heap.size + 1, 2, none⟩ = some (.slice A4 v.ks.length cap4) := (KV.out.cell 2).trans (by simp)
    have klt := KT.out.lt
    have klt2 := KV.out.lt
    have HBQ := Lib.hid (fun n => below_drewN hB0 n)
    cases q0 : (v.n == 0) with
    | false =>
      have t1 : (v.n != 0) = true := by rw [bne, q0]; rfl
      have hf : Hid (fitsV xs (d + 1) ⟨(q : Int), (r : Int)⟩ v = false) := by rw [HFD.out, q0]; rfl
      clear q0
      go_quiet (fail)
      go_wp2
      go_ret
      exact ⟨ret_bool hf.out.symm, HBQ.out _⟩
    | true =>
      have t1 : (v.n != 0) = false := by rw [bne, q0]; rfl
      have h1 : fitsV xs (d + 1) ⟨(q : Int), (r : Int)⟩ v = (hasB (ctorsL xs ⟨(q : Int), (r : Int)⟩) v.c && (decide (v.ks.length = (argsOf xs ⟨(q : Int), (r : Int)⟩ v.c).length) && zipAll (fitsV xs d) (argsOf xs ⟨(q : Int), (r : Int)⟩ v.c) v.ks)) := by rw [HFD.out, q0, Bool.true_and]
      have H1 := Lib.hid h1
      have HIW : Hid (InWorld xs.length ⟨(q : Int), (r : Int)⟩) := .inr ⟨q, rfl, hql⟩
      clear h1 q0
      have hkeep : ∀ U U' : World, (U.cell? ⟨w.heap.size, 0, none⟩ = some (.int .i64 (q : Int)) ∧ U.cell? ⟨w.heap.size, 1, none⟩ = some (.int .i64 (r : Int)) ∧ U.cell? ⟨w.heap.size + 1, 0, none⟩ = some (.int .i64 v.c) ∧ U.cell? ⟨w.heap.size + 1, 1, none⟩ = some (.int .i64 v.n) ∧ U.cell? ⟨w.heap.size + 1, 2, none⟩ = some (.slice A4 v.ks.length cap4)) → Below U.heap.size U U' → W2.heap.size ≤ U.heap.size → (U'.cell? ⟨w.heap.size, 0, none⟩ = some (.int .i64 (q : Int)) ∧ U'.cell? ⟨w.heap.size, 1, none⟩ = some (.int .i64 (r : Int)) ∧ U'.cell? ⟨w.heap.size + 1, 0, none⟩ = some (.int .i64 v.c) ∧ U'.cell? ⟨w.heap.size + 1, 1, none⟩ = some (.int .i64 v.n) ∧ U'.cell? ⟨w.heap.size + 1, 2, none⟩ = some (.slice A4 v.ks.length cap4)) := fun U U' h hUU hU => ⟨(hUU.cell (Nat.lt_of_lt_of_le (klt) hU)).trans h.1, (hUU.cell (Nat.lt_of_lt_of_le (klt) hU)).trans h.2.1, (hUU.cell (Nat.lt_of_lt_of_le (klt2) hU)).trans h.2.2.1, (hUU.cell (Nat.lt_of_lt_of_le (klt2) hU)).trans h.2.2.2.1, (hUU.cell (Nat.lt_of_lt_of_le (klt2) hU)).trans h.2.2.2.2⟩
      have HKeep := Lib.hid hkeep
      clear hkeep
      go_region_held3 (fun w' => w'.cell? ⟨w.heap.size, 0, none⟩ = some (.int .i64 (q : Int)) ∧ w'.cell? ⟨w.heap.size, 1, none⟩ = some (.int .i64 (r : Int)) ∧ w'.cell? ⟨w.heap.size + 1, 0, none⟩ = some (.int .i64 v.c) ∧ w'.cell? ⟨w.heap.size + 1, 1, none⟩ = some (.int .i64 v.n) ∧ w'.cell? ⟨w.heap.size + 1, 2, none⟩ = some (.slice A4 v.ks.length cap4)) (first | assumption | (exact ⟨y0, y1, z0, z1, z2⟩) | (exact HKeep.out W2.drew w4 ⟨y0, y1, z0, z1, z2⟩ hb4 (Nat.le_refl _)) | (exact HKeep.out w4 w5 (by assumption) hb5 hlew4)) (first | (go_at_call 108; ((with_reducible refine (spec_l1Ctors xs ⟨(q : Int), (r : Int)⟩ _ _ F (ArrDt.below HX.out hB0.drew HF.out) (HF.out.mono hB0.drew.size) HW.out HIW.out).mono ?_); rintro e w4 ⟨v4, F4, rfl, hb4, ha4, -, hfs4⟩); have hlew4 : W2.heap.size ≤ w4.heap.size := hb4.size) | (go_at_call 154; ((with_reducible refine (spec_l1Has (ctorsL xs ⟨(q : Int), (r : Int)⟩) v.c _ _ F4 ha4 hfs4.under).mono ?_); rintro e w5 ⟨rfl, hb5⟩)))
      have hBa := hB0.drew.trans (hb4.mono hB0.drew.size)
      have hB5 := hBa.trans (hb5.mono hBa.size)
      have KT5 := Lib.hid ((KT.out.same (hb4.block _ KT.out.lt)).same (hb5.block _ (KT.out.same (hb4.block _ KT.out.lt)).lt))
      have KV5 := Lib.hid ((KV.out.same (hb4.block _ KV.out.lt)).same (hb5.block _ (KV.out.same (hb4.block _ KV.out.lt)).lt))
      clear HKeep KT KV y0 y1 z0 z1 z2 klt klt2 hBa hb4 hb5 ha4 hfs4 HBQ hB0 t1
      cases e1 : hasB (ctorsL xs ⟨(q : Int), (r : Int)⟩) v.c with
      | false =>
        have hf : Hid (fitsV xs (d + 1) ⟨(q : Int), (r : Int)⟩ v = false) := by rw [H1.out, e1]; rfl
        clear e1
        go_wp2
        go_ret
        exact ⟨ret_bool hf.out.symm, hB5⟩
      | true =>
        obtain ⟨q', k, e2, hvc, hq', hkl⟩ := mem_ctorsL (xs := xs) (t := ⟨(q : Int), (r : Int)⟩) (.inr ⟨q, rfl, hql⟩) ((hasB_iff _ _).1 e1)
        obtain rfl : q = q' := Int.ofNat.inj e2
        have h2 := H1.out
        rw [e1, Bool.true_and, hvc, argsOf_get hql hkl] at h2
        have H2 := Lib.hid h2
        clear h2 e1 e2
        have HAI := Lib.hid (fun a ha => argTy_in (HW.out.ctor hql hkl) (i := (r : Int)) (by omega) (by omega) (a := a) ha)
        have HLA := Lib.hid (HW.out.ctor hql hkl).args
        have y0 : w5.cell? ⟨w.heap.size, 0, none⟩ = some (.int .i64 (q : Int)) := (KT5.out.cell 0).trans (by simp)
        have y1 : w5.cell? ⟨w.heap.size, 1, none⟩ = some (.int .i64 (r : Int)) := (KT5.out.cell 1).trans (by simp)
        have z0 : w5.cell? ⟨w.heap.size + 1, 0, none⟩ = some (.int .i64 v.c) := (KV5.out.cell 0).trans (by simp)
        have klt := KT5.out.lt
        have klt2 := KV5.out.lt
        have HVC := Lib.hid hvc
        clear hvc
        go_wp2_with fail
        rw [HVC.out]
        refine (spec_l1Args xs q k (r : Int) hql hkl w5 _ F (ArrDt.below HX.out hB5 HF.out) (HF.out.mono hB5.size) HLA.out).mono ?_
        rintro e w6 ⟨v6, F6, rfl, hb6, ha6, -, hfs6⟩
        have hB6 := hB5.trans (hb6.mono hB5.size)
        have KV6 := Lib.hid (KV5.out.same (hb6.block _ KV5.out.lt))
        generalize hass : argsL xs[q].ctors[k] (r : Int) = ls at *
        clear hass
        obtain ⟨A6, cap6, rfl, hd3, hd4⟩ := ha6.form
        have HA6 := Lib.hid ha6
        have HU6 := Lib.hid hfs6.under
        clear ha6 hfs6 hb6 KT5 KV5 y0 y1 z0 klt klt2 hB5
        have z2 : w6.cell? ⟨w.heap.size + 1, 2, none⟩ = some (.slice A4 v.ks.length cap4) := (KV6.out.cell 2).trans (by simp)
        have klt2 := KV6.out.lt
        by_cases hln : v.ks.length = ls.length
        · have t2 : ((v.ks.length : Int) != (ls.length : Int)) = false := by simp [hln]
          have h3 : fitsV xs (d + 1) ⟨(q : Int), (r : Int)⟩ v = zipAll (fitsV xs d) ls v.ks := by rw [H2.out, decide_eq_true hln, Bool.true_and]
          have H3 := Lib.hid h3
          have HLN := Lib.hid hln
          clear h3 hln
          go_wp2
          clear z2 klt2 t2
          go_loopw [10] (fun iv wr => ∃ i : Nat, i ≤ ls.length ∧ iv = .int .i64 i ∧ Hid (fitsV xs (d + 1) ⟨(q : Int), (r : Int)⟩ v = zipAll (fitsV xs d) (ls.drop i) (v.ks.drop i)) ∧ Hid (Blk wr (w.heap.size + 1) 53 #[.int .i64 v.c, .int .i64 v.n, .slice A4 v.ks.length cap4]) ∧ Below w.heap.size w wr ∧ Hid (Below w6.heap.size w6 wr)) (fun iv _ => ls.length - (intOf iv).toNat)
          case atStart => exact ⟨0, Nat.zero_le _, rfl, H3, KV6, hB6, Below.refl _ _⟩
          case round =>
            clear hB6
            obtain ⟨i, hi, rfl, HR, KV, hB, HB6⟩ := hrel
            by_cases hil : i < ls.length
            · have hik : i < v.ks.length := by rw [HLN.out]; exact hil
              obtain ⟨b6, off6, rfl⟩ := HA6.out.ptr (by omega)
              obtain ⟨hb6, a0, a1⟩ := ArrTy.at HA6.out HU6.out HB6.out i hil
              obtain ⟨b4, off4, rfl⟩ := HA.out.ptr (by omega)
              obtain ⟨A7, cap7, G7, hb7, k0, k1, k2, HV7, HG7, -, -, -⟩ := ArrV.at HA.out HG.out hB i hik
              have z2 : wr.cell? ⟨w.heap.size + 1, 2, none⟩ = some (.slice (some ⟨b4, off4, none⟩) v.ks.length cap4) := (KV.out.cell 2).trans (by simp)
              have klt2 := KV.out.lt
              have g1 : (0 : Int) ≤ (i : Int) := by omega
              have g2 : (i : Int) < (ls.length : Int) := by omega
              have g3 : (i : Int) < (v.ks.length : Int) := by omega
              have hstep := HR.out
              rw [zipAll_step hil hik] at hstep
              have HST := Lib.hid hstep
              clear hstep
              have hwr : IntKind.i64.wrap (d : Int) = (d : Int) := IntWalk.i64_in _ (by omega)
              have HCALL := Lib.hid (IH.out v.ks[i] (List.getElem_mem hik) xs HW.out d (by omega) ls[i] (HAI.out _ (List.getElem_mem hil)) wr.drew _ F _ G7 (ArrDt.below HX.out hB.drew HF.out) (HF.out.mono hB.drew.size) (HV7.out.below hB.drew HG7.out) (HG7.out.mono hB.drew.size))
              go_wp2_with fail
              have hkeep : ∀ U U' : World, (U.cell? ⟨b6, off6 + i * 2, none⟩ = some (.int .i64 ls[i].d) ∧ U.cell? ⟨b6, off6 + i * 2 + 1, none⟩ = some (.int .i64 ls[i].i) ∧ U.cell? ⟨w.heap.size + 1, 2, none⟩ = some (.slice (some ⟨b4, off4, none⟩) v.ks.length cap4) ∧ U.cell? ⟨b4, off4 + i * 3, none⟩ = some (.int .i64 v.ks[i].c) ∧ U.cell? ⟨b4, off4 + i * 3 + 1, none⟩ = some (.int .i64 v.ks[i].n) ∧ U.cell? ⟨b4, off4 + i * 3 + 2, none⟩ = some (.slice A7 v.ks[i].ks.length cap7)) → Below U.heap.size U U' → wr.heap.size ≤ U.heap.size → (U'.cell? ⟨b6, off6 + i * 2, none⟩ = some (.int .i64 ls[i].d) ∧ U'.cell? ⟨b6, off6 + i * 2 + 1, none⟩ = some (.int .i64 ls[i].i) ∧ U'.cell? ⟨w.heap.size + 1, 2, none⟩ = some (.slice (some ⟨b4, off4, none⟩) v.ks.length cap4) ∧ U'.cell? ⟨b4, off4 + i * 3, none⟩ = some (.int .i64 v.ks[i].c) ∧ U'.cell? ⟨b4, off4 + i * 3 + 1, none⟩ = some (.int .i64 v.ks[i].n) ∧ U'.cell? ⟨b4, off4 + i * 3 + 2, none⟩ = some (.slice A7 v.ks[i].ks.length cap7)) := fun U U' h hUU hU => ⟨(hUU.cell (Nat.lt_of_lt_of_le (hb6) hU)).trans h.1, (hUU.cell (Nat.lt_of_lt_of_le (hb6) hU)).trans h.2.1, (hUU.cell (Nat.lt_of_lt_of_le (klt2) hU)).trans h.2.2.1, (hUU.cell (Nat.lt_of_lt_of_le (hb7) hU)).trans h.2.2.2.1, (hUU.cell (Nat.lt_of_lt_of_le (hb7) hU)).trans h.2.2.2.2.1, (hUU.cell (Nat.lt_of_lt_of_le (hb7) hU)).trans h.2.2.2.2.2⟩
              have HKeep := Lib.hid hkeep
              clear hkeep
              go_region_held3 (fun w' => w'.cell? ⟨b6, off6 + i * 2, none⟩ = some (.int .i64 ls[i].d) ∧ w'.cell? ⟨b6, off6 + i * 2 + 1, none⟩ = some (.int .i64 ls[i].i) ∧ w'.cell? ⟨w.heap.size + 1, 2, none⟩ = some (.slice (some ⟨b4, off4, none⟩) v.ks.length cap4) ∧ w'.cell? ⟨b4, off4 + i * 3, none⟩ = some (.int .i64 v.ks[i].c) ∧ w'.cell? ⟨b4, off4 + i * 3 + 1, none⟩ = some (.int .i64 v.ks[i].n) ∧ w'.cell? ⟨b4, off4 + i * 3 + 2, none⟩ = some (.slice A7 v.ks[i].ks.length cap7)) (first | assumption | (exact ⟨a0, a1, z2, k0, k1, k2⟩) | (exact HKeep.out wr.drew w' ⟨a0, a1, z2, k0, k1, k2⟩ hB' (Nat.le_refl _))) (first | (go_at_call 127; ((with_reducible refine HCALL.out.mono ?_); rintro e w' ⟨rfl, hB'⟩)))
              have hB3 := hB.drew.trans (hB'.mono hB.size)
              have HB3 := Lib.hid (HB6.out.drew.trans (hB'.mono HB6.out.size))
              have KV3 := Lib.hid (KV.out.same (hB'.block _ KV.out.lt))
              clear HKeep hwr
              cases e3 : fitsV xs d ls[i] v.ks[i] with
              | false =>
                have hf : Hid (fitsV xs (d + 1) ⟨(q : Int), (r : Int)⟩ v = false) := by rw [HST.out, e3]; rfl
                clear e3
                go_wp2
                go_ret
                exact ⟨ret_bool hf.out.symm, hB3⟩
              | true =>
                have hR2 : Hid (fitsV xs (d + 1) ⟨(q : Int), (r : Int)⟩ v = zipAll (fitsV xs d) (ls.drop (i + 1)) (v.ks.drop (i + 1))) := by rw [HST.out, e3, Bool.true_and]; rfl
                clear e3
                go_wp2
                go_roundw
                case rel => exact ⟨i + 1, by omega, by go_num, hR2, KV3, hB3, HB3⟩
                case measure => (simp [intOf] <;> omega)
            · have hf : Hid (fitsV xs (d + 1) ⟨(q : Int), (r : Int)⟩ v = true) := by rw [HR.out]; exact zipAll_end (by omega)
              go_wp2
              go_ret
              exact ⟨ret_bool hf.out.symm, hB⟩
        · have t2 : ((v.ks.length : Int) != (ls.length : Int)) = true := by rw [bne_iff_ne]; omega
          have hf : Hid (fitsV xs (d + 1) ⟨(q : Int), (r : Int)⟩ v = false) := by rw [H2.out, decide_eq_false hln]; rfl
          clear hln
          go_wp2
          go_ret
          exact ⟨ret_bool hf.out.symm, hB6⟩
theorem V.indv {p : V → Prop} (h : ∀ v : V, (∀ k ∈ v.ks, p k) → p v) : ∀ v, p v := V.ind fun c n ks ih => h ⟨c, n, ks⟩ ih
theorem spec_l2Fits : ∀ v, FitsS v := V.indv l2Fits_of
end Go.Proofs.Ytilndhmegaccmaa

namespace Go.Proofs.Ytilndhmegaccmaa
open Go.RowKit

section
variable {α : Type} {w w9 wr wA w7 : World} {D Bz H k : Nat} {T E : TypeId} {cells : Array Value} {R : World → α → List Value → List Nat → Prop} {xs ys : List α} {v v' : Value} {F G : List Nat} {o : Obj}
theorem kid_old2 (HO : Own wr Bz E k R xs v F) (hBu : Below wr.heap.size wr wA) (hgr : (wA.alloc o).grownBy w7 v.ownBlock) {b : Nat} (hb : b < Bz) (hbr : b < wr.heap.size) : w7.heap[b]? = wr.heap[b]? := by
  have hl : b < wA.heap.size := Nat.lt_of_lt_of_le hbr hBu.size
  refine ((hgr.block b (by rw [World.size_alloc]; omega) (fun e => ?_)).trans (Below.heap_alloc _ _ _ hl)).trans (hBu.block b hbr)
  have := (HO.row b (mem_rowOf.2 e.symm)).1
  omega
theorem kid_round2 (j : Nat) (hRm : ∀ w w' x cs G, Kept G w w' → R w x cs G → R w' x cs G) (hw9 : w9.heap.size = Bz) (hDB : D < Bz) (KD : Blk wr D T cells) (HO : Own wr Bz E k R xs v F) (HF : Free wr F) (HFh : ∀ b ∈ F, Bz ≤ b) (HC : Chg [D] w9 wr) (hB : Below H w wr) (hHD : H ≤ D) (hw : H ≤ w.heap.size)
    (hBu : Below wr.heap.size wr wA) (hfrA : Free wA G) (hfsA : ∀ b ∈ G, wr.heap.size ≤ b ∧ b < wA.heap.size) (hown : Own w7 Bz E k R ys v' (F ++ G)) (hgr : (wA.alloc o).grownBy w7 v.ownBlock) :
    Blk (w7.setCell ⟨D, j, none⟩ v') D T (cells.setIfInBounds j v') ∧ Own (w7.setCell ⟨D, j, none⟩ v') Bz E k R ys v' (F ++ G) ∧ Free (w7.setCell ⟨D, j, none⟩ v') (F ++ G) ∧ (∀ b ∈ F ++ G, Bz ≤ b) ∧ Chg [D] w9 (w7.setCell ⟨D, j, none⟩ v') ∧ Below H w (w7.setCell ⟨D, j, none⟩ v') ∧ w9.heap.size ≤ (w7.setCell ⟨D, j, none⟩ v').heap.size := by
  have hlt := KD.lt
  have hA := hBu.size
  have hz := HC.size
  rw [hw9] at hz
  have hFG : ∀ b ∈ F ++ G, Bz ≤ b := fun b hb => by
    rcases List.mem_append.1 hb with h | h
    · exact HFh b h
    · have := (hfsA b h).1; omega
  have hBA7 : Below Bz wA w7 := ((Below.refl Bz wA).alloc (by omega) o).grown hgr (by rw [World.size_alloc]; omega) (fun g hg => (HO.row g (mem_rowOf.2 hg)).1)
  have hC7 : Chg [D] w9 w7 := chg_under (HC.step hBu) (by rw [hw9]; exact hBA7)
  have hC8 : Chg [D] w9 (w7.setCell ⟨D, j, none⟩ v') := hC7.set (by simp)
  have hne : ∀ b ∈ F ++ G, b ≠ D := fun b hb e => by have := hFG b hb; omega
  refine ⟨?_, Own.set (j := j) hRm hown v' (fun h => by have := (hown.row _ h).1; omega) (fun h => hne _ h rfl), ?_, hFG, hC8, ?_, hC8.size⟩
  · exact (KD.same (kid_old2 HO hBu hgr hDB hlt)).set_ j v'
  · have hfr : Free wA (F ++ G) := free_app (HF.kept (.of_below hBu HO.under)) hfrA (fun b hb hG => by have h1 := HO.under b hb; have h2 := (hfsA b hG).1; omega)
    have hfr7 : Free w7 (F ++ G) := hfr.kept fun b hb => by
      have hbA : b < wA.heap.size := by
        rcases List.mem_append.1 hb with h | h
        · exact Nat.lt_of_lt_of_le (HO.under b h) hA
        · exact (hfsA b h).2
      refine (hgr.block b (by rw [World.size_alloc]; omega) (fun e => ?_)).trans (Below.heap_alloc _ _ _ hbA)
      have hrw := mem_rowOf.2 e.symm
      rcases List.mem_append.1 hb with h | h
      · exact HO.apart b hrw h
      · have h1 := (HO.row b hrw).2
        have h2 := (hfsA b h).1
        omega
    exact hfr7.kept fun b hb => Below.heap_setCell w7 ⟨D, j, none⟩ v' b (hne b hb)
  · have h8 : Below H w w7 := (hB.trans (hBu.mono (Nat.le_trans hw hB.size))).trans (hBA7.mono (by omega))
    exact h8.setCell hHD _
end
section
variable {w w0 : World} {H B : Nat} {T : TypeId} {F : List Nat}
theorem Blk.three {b0 b1 b2 : Value} (h : Blk w H T #[b0, b1, b2]) (a0 a1 a2 : Value) : Blk (((w.setCell ⟨H, 0, none⟩ a0).setCell ⟨H, 1, none⟩ a1).setCell ⟨H, 2, none⟩ a2) H T #[a0, a1, a2] := ((h.set_ 0 a0).set_ 1 a1).set_ 2 a2
theorem below_three (h : Below B w0 w) (hH : B ≤ H) (a0 a1 a2 : Value) : Below B w0 (((w.setCell ⟨H, 0, none⟩ a0).setCell ⟨H, 1, none⟩ a1).setCell ⟨H, 2, none⟩ a2) := ((h.setCell hH _).setCell hH _).setCell hH _
theorem kept_three (hF : ∀ b ∈ F, b ≠ H) (a0 a1 a2 : Value) : Kept F w (((w.setCell ⟨H, 0, none⟩ a0).setCell ⟨H, 1, none⟩ a1).setCell ⟨H, 2, none⟩ a2) := fun b hb => by
  have := hF b hb
  rw [Below.heap_setCell _ _ _ _ this, Below.heap_setCell _ _ _ _ this, Below.heap_setCell _ _ _ _ this]
theorem size_three (a0 a1 a2 : Value) : (((w.setCell ⟨H, 0, none⟩ a0).setCell ⟨H, 1, none⟩ a1).setCell ⟨H, 2, none⟩ a2).heap.size = w.heap.size := by simp [World.setCell]
end
theorem info_VE : (Try.prog.info? 53).map (fun i => (i.zero, i.size, i.bytes)) = some (some (.agg #[.int .i64 0, .int .i64 0, .slice none 0 0]), 3, 40) := by kernel_rfl
theorem VR_mono' (w w' : World) (x : V) (cs : List Value) (G : List Nat) (hk : Kept G w w') (h : VR w x cs G) : VR w' x cs G := VR.mono x cs G hk h
theorem VR_len' (w : World) (x : V) (cs : List Value) (G : List Nat) (h : VR w x cs G) : cs.length = 3 := VR_len x cs G h
/-- a call gives a value of its own -/
def MadeVt (v : V) (w : World) (e : Ending) (w' : World) : Prop := ∃ cs F, e = .returned (.agg cs.toArray) ∧ Below w.heap.size w w' ∧ VR w' v cs F ∧ Free w' F ∧ Fresh w w' F
end Go.Proofs.Ytilndhmegaccmaa

namespace Go.Proofs.Ytilndhmegaccmaa
open Go.RowKit

structure P where
  op : Int
  ct : Int
  n : Int
  m : Int
  va : Int
  ks : List P

theorem P.ind {p : P → Prop} (h : ∀ op ct n m va ks, (∀ k ∈ ks, p k) → p ⟨op, ct, n, m, va, ks⟩) : ∀ v, p v
  | ⟨op, ct, n, m, va, ks⟩ => h op ct n m va ks fun k hk => P.ind h k
termination_by v => SizeOf.sizeOf v
decreasing_by
  have := List.sizeOf_lt_of_mem hk
  simp
  omega

mutual
def P.size : P → Nat
  | ⟨_, _, _, _, _, ks⟩ => P.sizes ks
def P.sizes : List P → Nat
  | [] => 0
  | k :: ks => 1 + P.size k + P.sizes ks
end

def P.subs : List P → Nat
  | [] => 0
  | k :: ks => k.size + P.subs ks
theorem P.subs_snoc (l : List P) (x : P) : P.subs (l ++ [x]) = P.subs l + x.size := by
  induction l with
  | nil => simp [P.subs]
  | cons k l ih => simp only [List.cons_append, P.subs, ih]; omega
theorem P.sizes_eq (l : List P) : P.sizes l = l.length + P.subs l := by
  induction l with
  | nil => rfl
  | cons k l ih => simp only [P.sizes, P.subs, List.length_cons, ih]; omega
theorem P.subs_take_le (l : List P) (k : Nat) : P.subs (l.take k) ≤ P.subs l := by
  induction l generalizing k with
  | nil => simp [P.subs]
  | cons x l ih =>
    cases k with
    | zero => simp [P.subs]
    | succ k => simp only [List.take_succ_cons, P.subs]; have := ih k; omega
theorem P.subs_take_succ (l : List P) (k : Nat) (h : k < l.length) : P.subs (l.take (k + 1)) = P.subs (l.take k) + l[k].size := by
  rw [take_snoc' l k h, P.subs_snoc]
theorem P.size_lt (l : List P) (k : Nat) (h : k < l.length) : l[k].size + l.length ≤ P.sizes l := by
  have h2 := P.subs_take_le l (k + 1)
  rw [P.subs_take_succ l k h] at h2
  rw [P.sizes_eq]
  omega

mutual
def PR (w : World) : P → List Value → List Nat → Prop
  | ⟨op, ct, n, m, va, ks⟩, cs, F => ∃ A cap, cs = [.int .i64 op, .int .i64 ct, .int .i64 n, .int .i64 m, .int .i64 va, .slice A ks.length cap] ∧ ks.length ≤ cap ∧ cap ≤ maxLen ∧ ((ks = [] ∧ F = []) ∨ ∃ b off ds G, A = some ⟨b, off, none⟩ ∧ CellsAt w b off ds ∧ PRs w ks ds G ∧ F = b :: G)
def PRs (w : World) : List P → List Value → List Nat → Prop
  | [], cs, F => cs = [] ∧ F = []
  | x :: xs, cs, F => ∃ c1 c2 F1 F2, cs = c1 ++ c2 ∧ F = F1 ++ F2 ∧ PR w x c1 F1 ∧ PRs w xs c2 F2
end

theorem PRs_eq (w : World) (ks : List P) : ∀ cs F, PRs w ks cs F ↔ Flat (PR w) ks cs F := by
  induction ks with
  | nil => intro cs F; simp [PRs, Flat]
  | cons k ks ih =>
    intro cs F
    simp only [PRs, Flat, ih]

theorem PR_iff {w : World} (v : P) (cs : List Value) (F : List Nat) : PR w v cs F ↔ ∃ kv, cs = [.int .i64 v.op, .int .i64 v.ct, .int .i64 v.n, .int .i64 v.m, .int .i64 v.va, kv] ∧ Arr w (PR w) v.ks kv F := by
  obtain ⟨op, ct, n, m, va, ks⟩ := v
  simp only [PR, Arr, PRs_eq]
  constructor
  · rintro ⟨A, cap, rfl, h1, h2, h3⟩
    exact ⟨_, rfl, A, cap, rfl, h1, h2, h3⟩
  · rintro ⟨kv, rfl, A, cap, rfl, h1, h2, h3⟩
    exact ⟨A, cap, rfl, h1, h2, h3⟩

theorem PR_len {w : World} (v : P) (cs : List Value) (F : List Nat) (h : PR w v cs F) : cs.length = 6 := by
  obtain ⟨kv, rfl, -⟩ := (PR_iff _ _ _).1 h
  rfl

theorem PR.mono {w w' : World} : ∀ v cs F, Kept F w w' → PR w v cs F → PR w' v cs F := by
  refine P.ind fun op ct n m va ks ih cs F hF h => ?_
  rw [PR_iff] at h ⊢
  obtain ⟨kv, rfl, h⟩ := h
  exact ⟨kv, rfl, h.mono hF ih⟩

theorem PR.below {w w' : World} {B : Nat} {v : P} {cs : List Value} {F : List Nat} (h : PR w v cs F) (hb : Below B w w') (hF : Under B F) : PR w' v cs F := PR.mono v cs F (.of_below hb hF) h

theorem PR.drew {w : World} {v : P} {cs : List Value} {F : List Nat} (h : PR w v cs F) : PR w.drew v cs F := PR.mono (w := w) v cs F (fun _ _ => rfl) h
theorem PR.drewN {w : World} {v : P} {cs : List Value} {F : List Nat} (h : PR w v cs F) (n : Nat) : PR (w.drewN n) v cs F := PR.mono (w := w) v cs F (fun _ _ => rfl) h

theorem ArrP.mono {w w' : World} {vs : List P} {x : Value} {F : List Nat} (h : Arr w (PR w) vs x F) (hF : Kept F w w') : Arr w' (PR w') vs x F := h.mono hF fun v _ => PR.mono v
theorem ArrP.below {w w' : World} {B : Nat} {vs : List P} {x : Value} {F : List Nat} (h : Arr w (PR w) vs x F) (hb : Below B w w') (hF : Under B F) : Arr w' (PR w') vs x F := ArrP.mono h (.of_below hb hF)

end Go.Proofs.Ytilndhmegaccmaa

namespace Go.Proofs.Ytilndhmegaccmaa
open Go.RowKit

mutual
def patOf : V → P
  | ⟨c, n, ks⟩ => if c = -1 then ⟨3, 0, n, n, 0, []⟩ else ⟨4, c, 0, 0, 0, patOfs ks⟩
def patOfs : List V → List P
  | [] => []
  | k :: ks => patOf k :: patOfs ks
end
theorem patOfs_eq (l : List V) : patOfs l = l.map patOf := by
  induction l with
  | nil => rfl
  | cons k l ih => rw [patOfs, ih]; rfl
theorem patOf_num {v : V} (h : v.c = -1) : patOf v = ⟨3, 0, v.n, v.n, 0, []⟩ := by
  obtain ⟨c, n, ks⟩ := v
  rw [patOf]; exact if_pos h
theorem patOf_ctor {v : V} (h : ¬ v.c = -1) : patOf v = ⟨4, v.c, 0, 0, 0, v.ks.map patOf⟩ := by
  obtain ⟨c, n, ks⟩ := v
  rw [patOf, patOfs_eq]; exact if_neg h
def patTo (ks : List V) (i : Nat) : List P := (ks.take i).map patOf
theorem patTo_succ (ks : List V) (i : Nat) (h : i < ks.length) : patTo ks (i + 1) = patTo ks i ++ [patOf ks[i]] := by
  unfold patTo
  rw [take_snoc' ks i h, List.map_append]; rfl
theorem patTo_all (ks : List V) {i : Nat} (h : ks.length ≤ i) : patTo ks i = ks.map patOf := by unfold patTo; rw [List.take_of_length_le h]
theorem patTo_len (ks : List V) (i : Nat) : (patTo ks i).length ≤ i := by unfold patTo; rw [List.length_map, List.length_take]; omega
end Go.Proofs.Ytilndhmegaccmaa

namespace Go.Proofs.Ytilndhmegaccmaa
open Go.RowKit

theorem results_cell_row {P : Program} {fn : Func} {p : Tmp} {ty : TypeId} (h : fn.results = #[.cell p ty]) (tmps : Array Value) (w : World) (g : Nat) (t : TypeId) (cs : Array Value) (fr : Nat × Nat) (d : TypeDesc)
    (hp : tmps.getD p undef = .pointer (some ⟨g, 0, none⟩)) (hg : w.heap[g]? = some (.cells cs t fr))
    (hu : P.underlying ty = some d) (hd : (match d with | .struct _ | .array _ _ => true | _ => false) = true) (hi : (P.info? ty).map (·.size) = some cs.size) :
    (results fn tmps).run P w = .ok (.agg cs) w := by
  have hp' : tmps[p]?.getD undef = .pointer (some ⟨g, 0, none⟩) := by simpa using hp
  simp [results, h, hp', asAddr, run_loadVar_row w g t ty cs fr d hg hu hd hi]
theorem results_cell_tmp {P : Program} {fn : Func} {p v : Tmp} {ty : TypeId} (h : fn.results = #[.cell p ty, .tmp v]) (tmps : Array Value) (w : World) (g : Nat) (t : TypeId) (cs : Array Value) (fr : Nat × Nat) (d : TypeDesc)
    (hp : tmps.getD p undef = .pointer (some ⟨g, 0, none⟩)) (hg : w.heap[g]? = some (.cells cs t fr))
    (hu : P.underlying ty = some d) (hd : (match d with | .struct _ | .array _ _ => true | _ => false) = true) (hi : (P.info? ty).map (·.size) = some cs.size) :
    (results fn tmps).run P w = .ok (.tuple #[.agg cs, tmps.getD v undef]) w := by
  have hp' : tmps[p]?.getD undef = .pointer (some ⟨g, 0, none⟩) := by simpa using hp
  simp [results, h, hp', asAddr, run_loadVar_row w g t ty cs fr d hg hu hd hi]
theorem blk_second (w : World) (o : Obj) (T : TypeId) (C : Array Value) : Blk ((w.alloc o).alloc (.cells C T)) (w.heap.size + 1) T C := by
  have h := Blk.new (w.alloc o) T C
  rw [World.size_alloc] at h
  exact h
section
variable {w w0 : World} {H B : Nat} {T : TypeId} {F : List Nat}
theorem Blk.six {b0 b1 b2 b3 b4 b5 : Value} (h : Blk w H T #[b0, b1, b2, b3, b4, b5]) (a0 a1 a2 a3 a4 a5 : Value) : Blk ((((((w.setCell ⟨H, 0, none⟩ a0).setCell ⟨H, 1, none⟩ a1).setCell ⟨H, 2, none⟩ a2).setCell ⟨H, 3, none⟩ a3).setCell ⟨H, 4, none⟩ a4).setCell ⟨H, 5, none⟩ a5) H T #[a0, a1, a2, a3, a4, a5] := (((((h.set_ 0 a0).set_ 1 a1).set_ 2 a2).set_ 3 a3).set_ 4 a4).set_ 5 a5
theorem below_six (h : Below B w0 w) (hH : B ≤ H) (a0 a1 a2 a3 a4 a5 : Value) : Below B w0 ((((((w.setCell ⟨H, 0, none⟩ a0).setCell ⟨H, 1, none⟩ a1).setCell ⟨H, 2, none⟩ a2).setCell ⟨H, 3, none⟩ a3).setCell ⟨H, 4, none⟩ a4).setCell ⟨H, 5, none⟩ a5) := (((((h.setCell hH _).setCell hH _).setCell hH _).setCell hH _).setCell hH _).setCell hH _
theorem kept_six (hF : ∀ b ∈ F, b ≠ H) (a0 a1 a2 a3 a4 a5 : Value) : Kept F w ((((((w.setCell ⟨H, 0, none⟩ a0).setCell ⟨H, 1, none⟩ a1).setCell ⟨H, 2, none⟩ a2).setCell ⟨H, 3, none⟩ a3).setCell ⟨H, 4, none⟩ a4).setCell ⟨H, 5, none⟩ a5) := fun b hb => by
  have := hF b hb
  rw [Below.heap_setCell _ _ _ _ this, Below.heap_setCell _ _ _ _ this, Below.heap_setCell _ _ _ _ this, Below.heap_setCell _ _ _ _ this, Below.heap_setCell _ _ _ _ this, Below.heap_setCell _ _ _ _ this]
theorem size_six (a0 a1 a2 a3 a4 a5 : Value) : ((((((w.setCell ⟨H, 0, none⟩ a0).setCell ⟨H, 1, none⟩ a1).setCell ⟨H, 2, none⟩ a2).setCell ⟨H, 3, none⟩ a3).setCell ⟨H, 4, none⟩ a4).setCell ⟨H, 5, none⟩ a5).heap.size = w.heap.size := by simp [World.setCell]
end

theorem info_PE : (Try.prog.info? 25).map (fun i => (i.zero, i.size, i.bytes)) = some (some (.agg #[.int .i64 0, .int .i64 0, .int .i64 0, .int .i64 0, .int .i64 0, .slice none 0 0]), 6, 64) := by kernel_rfl
theorem PR_mono' (w w' : World) (x : P) (cs : List Value) (G : List Nat) (hk : Kept G w w') (h : PR w x cs G) : PR w' x cs G := PR.mono x cs G hk h
theorem PR_len' (w : World) (x : P) (cs : List Value) (G : List Nat) (h : PR w x cs G) : cs.length = 6 := PR_len x cs G h
/-- a call gives a pattern of its own -/
def MadePt (p : P) (w : World) (e : Ending) (w' : World) : Prop := ∃ cs F, e = .returned (.agg cs.toArray) ∧ Below w.heap.size w w' ∧ PR w' p cs F ∧ Free w' F ∧ Fresh w w' F
def PatOfP (fn : FuncId) (v : V) : Prop := ∀ (w : World) (cs : List Value) (G : List Nat), VR w v cs G → Under w.heap.size G → v.size ≤ 1048576 →
  Calls Try.prog fn #[.agg cs.toArray] w (MadePt (patOf v) w)
theorem V.sizes_mem' (l : List V) (k : Nat) (h : k < l.length) : l[k].size ≤ V.sizes l := by
  have := V.size_lt l k h
  omega


end Go.Proofs.Ytilndhmegaccmaa

namespace Go.Proofs.Ytilndhmegaccmaa
open Go.RowKit

/-- the first i parts -/
def kidTo (ks : List V) (i : Nat) : List V := ks.take i
theorem kidTo_len (ks : List V) (i : Nat) : (kidTo ks i).length ≤ i := by unfold kidTo; rw [List.length_take]; omega
theorem kidTo_succ (ks : List V) (i : Nat) (h : i < ks.length) : kidTo ks (i + 1) = kidTo ks i ++ [ks[i]] := take_snoc' ks i h
theorem kidTo_all (ks : List V) {i : Nat} (h : ks.length ≤ i) : kidTo ks i = ks := List.take_of_length_le h
theorem V.sizes_mem2 (l : List V) (k : Nat) (h : k < l.length) : l[k].size ≤ V.sizes l := by
  have := V.size_lt l k h
  omega
def CopyV (fn : FuncId) (v : V) : Prop := ∀ (w : World) (cs : List Value) (G : List Nat), VR w v cs G → Under w.heap.size G → v.size ≤ 1048576 →
  Calls Try.prog fn #[.agg cs.toArray] w (MadeVt v w)
end Go.Proofs.Ytilndhmegaccmaa

namespace Go.Proofs.Ytilndhmegaccmaa
open Go.RowKit

/-- the values up to a depth are listed: not too many, the depth in range, the type valid -/
def uptoB (xs : List Dt) (t : Ty) (dp : Int) : Bool := typeValidB xs t && (withinB dp 0 4 && decide ((valsL xs dp.toNat t).length ≤ 400))
def uptoV (xs : List Dt) (t : Ty) (dp : Int) : List V := if uptoB xs t dp = true then valsL xs dp.toNat t else []
theorem uptoV_no {xs : List Dt} {t : Ty} {dp : Int} (h : uptoB xs t dp = false) : uptoV xs t dp = [] := if_neg (by simp [h])
theorem uptoV_yes {xs : List Dt} {t : Ty} {dp : Int} (h : uptoB xs t dp = true) : uptoV xs t dp = valsL xs dp.toNat t := if_pos h
theorem upto_split {xs : List Dt} {t : Ty} {dp : Int} (h : uptoB xs t dp = true) : WorldOK xs ∧ TyIn xs.length t ∧ (∃ n : Nat, dp = (n : Int) ∧ n ≤ 4) ∧ (valsL xs dp.toNat t).length ≤ 400 := by
  unfold uptoB at h
  simp only [Bool.and_eq_true, decide_eq_true_iff, withinB_iff] at h
  obtain ⟨h1, h2, h3⟩ := h
  obtain ⟨hw, ht⟩ := typeValid_split h1
  exact ⟨hw, typeOkB_tyIn ht, ⟨dp.toNat, by omega, by omega⟩, h3⟩
theorem uptoV_len (xs : List Dt) (t : Ty) (dp : Int) : (uptoV xs t dp).length ≤ 400 := by
  cases h : uptoB xs t dp with
  | false => rw [uptoV_no h]; simp
  | true => rw [uptoV_yes h]; exact (upto_split h).2.2.2
theorem uptoV_small {xs : List Dt} {t : Ty} {dp : Int} {v : V} (h : v ∈ uptoV xs t dp) : nodes v ≤ 60 := by
  cases hb : uptoB xs t dp with
  | false => rw [uptoV_no hb] at h; cases h
  | true =>
    rw [uptoV_yes hb] at h
    obtain ⟨hw, ht, ⟨n, hn, h4⟩, -⟩ := upto_split hb
    exact (vals_small hw (by omega) ht h).1
/-- a list of values of the call's own, and a Boolean -/
def MadeVals2 (vs : List V) (b : Bool) (w : World) (e : Ending) (w' : World) : Prop := ∃ v F, e = .returned (.tuple #[v, .bool b]) ∧ Below w.heap.size w w' ∧ Arr w' (VR w') vs v F ∧ Free w' F ∧ Fresh w w' F
theorem upto_rw {P : Program} {f : FuncId} {as' : Array Value} {w : World} {vs : List V} {b b' : Bool} (h : b = b') (c : Calls P f as' w (MadeVals2 vs b w)) : Calls P f as' w (MadeVals2 vs b' w) := h ▸ c
theorem push_free {w w1 w2 : World} {v : Value} {F G : List Nat} {o : Obj} (hF : Free w F) (hFu : Under w.heap.size F) (hb : Below w.heap.size w w1) (hG : Free w1 G) (hGf : ∀ b ∈ G, w.heap.size ≤ b ∧ b < w1.heap.size)
    (hg : (w1.alloc o).grownBy w2 v.ownBlock) (hv : ∀ g ∈ rowOf v, g ∉ F) (hvl : ∀ g ∈ rowOf v, g < w.heap.size) : Free w2 (F ++ G) := by
  have h1 : Under (w1.alloc o).heap.size (F ++ G) := fun b hb' => by
    rw [World.size_alloc]
    rcases List.mem_append.1 hb' with h | h
    · have := hFu b h; have := hb.size; omega
    · have := (hGf b h).2; omega
  have hkF : Kept F w (w1.alloc o) := fun b h => (Below.heap_alloc _ _ _ (Nat.lt_of_lt_of_le (hFu b h) hb.size)).trans (hb.block b (hFu b h))
  have hkG : Kept G w1 (w1.alloc o) := fun b h => Below.heap_alloc _ _ _ (hGf b h).2
  have h2 : Free (w1.alloc o) (F ++ G) := by
    refine ⟨List.nodup_append.2 ⟨hF.1, hG.1, fun a ha c hc hac => ?_⟩, fun b hb' i => ?_⟩
    · subst hac
      exact Nat.lt_irrefl _ (Nat.lt_of_lt_of_le (hFu _ ha) (hGf _ hc).1)
    · rcases List.mem_append.1 hb' with h | h
      · exact (hF.kept hkF).2 b h i
      · exact (hG.kept hkG).2 b h i
  exact h2.kept (grown_kept hg h1 fun g hg hgF => by
    rcases List.mem_append.1 hgF with h | h
    · exact hv g hg h
    · exact Nat.lt_irrefl _ (Nat.lt_of_lt_of_le (hvl g hg) (hGf g h).1))
end Go.Proofs.Ytilndhmegaccmaa

namespace Go.Proofs.Ytilndhmegaccmaa
open Go.RowKit

/-- a table whose entries are small -/
structure Small (n : Nat) (tab : List Int) : Prop where
  len : tab.length = n * 4
  pos : ∀ s, 0 ≤ tab.getD s 0
  max : ∀ s, tab.getD s 0 ≤ 100000
theorem Small.dep {n : Nat} {tab : List Int} (h : Small n tab) (t : Ty) : 0 ≤ depthIn tab t ∧ depthIn tab t ≤ 100000 := by
  unfold depthIn
  split
  · omega
  · exact ⟨h.pos _, h.max _⟩
theorem depthIn_int {tab : List Int} {t : Ty} (h : t.d = -1) : depthIn tab t = 1 := if_pos h
theorem depthIn_data {tab : List Int} {d i : Nat} (h : d * 4 + i < tab.length) : depthIn tab ⟨(d : Int), (i : Int)⟩ = tab[d * 4 + i] := by
  unfold depthIn
  rw [if_neg (by show ¬ ((d : Int) = -1); omega), slotOf_mk]
  simp [List.getD, List.getElem?_eq_getElem h]
/-- the walk through the arguments, i of them done -/
theorem mostGo_step {tab : List Int} {ls : List Ty} {m : Int} {i : Nat} (h : i < ls.length) : mostGo tab m (ls.drop i) = if depthIn tab ls[i] = 0 then 0 else mostGo tab (max m (depthIn tab ls[i])) (ls.drop (i + 1)) := by
  rw [List.drop_eq_getElem_cons h, mostGo]

set_option maxRecDepth 100000 in
set_option maxHeartbeats 1600000 in
theorem spec_l1Slot (d i : Nat) (hd : d < 4) (hi : i < 4) (w : World) : Calls Try.prog 153 #[.agg #[.int .i64 (d : Int), .int .i64 (i : Int)]] w fun e w' => e = .returned (.int .i64 ((d * 4 + i : Nat) : Int)) ∧ Below w.heap.size w w' := by
  have g1 : (0 : Int) ≤ (d : Int) := by omega
  have g2 : (d : Int) ≤ 3 := by omega
  have g3 : (0 : Int) ≤ (i : Int) := by omega
  have g4 : (i : Int) ≤ 3 := by omega
  go_enter Try.func153, Try.ntmps153
  go_wp2
  go_ret
  exact ⟨ret_int (by omega), (Below.refl _ _).alloc (Nat.le_refl _) _⟩

set_option maxRecDepth 100000 in
set_option maxHeartbeats 1600000 in
theorem spec_l1Depth (n : Nat) (hn : n ≤ 4) (tab : List Int) (htab : Small n tab) (t : Ty) (ht : TyIn n t) (w : World) (v : Value) (F : List Nat) (hx : Arr w (NatR w) tab v F) (hf : Under w.heap.size F) :
    Calls Try.prog 125 #[v, .agg #[.int .i64 t.d, .int .i64 t.i]] w fun e w' => e = .returned (.int .i64 (depthIn tab t)) ∧ Below w.heap.size w w' := by
  obtain ⟨A, cap, rfl, hc1, hc2⟩ := hx.form
  have HX := Lib.hid hx
  have HF := Lib.hid hf
  clear hx hf
  rcases ht with ht | ⟨d, i, rfl, hd, hi⟩
  · have hf := Lib.hid (depthIn_int (tab := tab) ht)
    have t0 : (t.d == -1) = true := by simp [ht]
    clear ht
    go_enter Try.func125, Try.ntmps125
    go_wp2
    go_ret
    exact ⟨ret_int hf.out.symm, (Below.refl _ _).alloc (Nat.le_refl _) _⟩
  · have hsl : d * 4 + i < tab.length := by rw [htab.len]; omega
    have hf := Lib.hid (depthIn_data hsl)
    have t0 : ((d : Int) == -1) = false := by rw [beq_eq_false_iff_ne]; omega
    go_enter Try.func125, Try.ntmps125
    go_wp2_with fail
    refine (spec_l1Slot d i (by omega) hi _).mono ?_
    rintro e w' ⟨rfl, hB'⟩
    have hB0 : Below w.heap.size w (w.alloc (.cells #[.int .i64 (d : Int), .int .i64 (i : Int)] 32)) := (Below.refl _ _).alloc (Nat.le_refl _) _
    have hB := hB0.trans (hB'.mono hB0.size)
    obtain ⟨b, off, rfl⟩ := HX.out.ptr (by omega)
    obtain ⟨hb, c0⟩ := ArrNat.at HX.out HF.out hB (d * 4 + i) hsl
    have g5 : (0 : Int) ≤ ((d * 4 + i : Nat) : Int) := by omega
    have g6 : ((d * 4 + i : Nat) : Int) < (tab.length : Int) := by omega
    generalize hq : d * 4 + i = q at *
    clear hq hB'
    go_wp2
    go_ret
    exact ⟨ret_int hf.out.symm, hB⟩

set_option maxRecDepth 100000 in
set_option maxHeartbeats 1600000 in
theorem spec_l1Most (xs : List Dt) (hw : WorldOK xs) (tab : List Int) (htab : Small xs.length tab) (d i k : Nat) (hd : d < xs.length) (hi : i < 4) (hk : k < xs[d].ctors.length) (w : World) (v u : Value) (F G : List Nat) (hx : Arr w (DtR w) xs v F) (hf : Under w.heap.size F) (hy : Arr w (NatR w) tab u G) (hg : Under w.heap.size G) :
    Calls Try.prog 126 #[v, u, .agg #[.int .i64 (d : Int), .int .i64 (i : Int)], .int .i64 (k : Int)] w fun e w' => e = .returned (.int .i64 (mostIn xs tab ⟨(d : Int), (i : Int)⟩ (k : Int))) ∧ Below w.heap.size w w' := by
  have hmi : mostIn xs tab ⟨(d : Int), (i : Int)⟩ (k : Int) = mostGo tab 0 (argsL xs[d].ctors[k] (i : Int)) := by unfold mostIn; rw [argsOf_get hd hk]
  rw [hmi]
  clear hmi
  have hin : ∀ a ∈ argsL xs[d].ctors[k] (i : Int), TyIn xs.length a := fun a ha => argTy_in (hw.ctor hd hk) (by omega) (by omega) ha
  have hlen : (argsL xs[d].ctors[k] (i : Int)).length ≤ 3 := by rw [argsL_len]; exact (hw.ctor hd hk).args
  have HL := Lib.hid (hw.ctor hd hk).args
  have hn4 := hw.len
  obtain ⟨A, cap, rfl, hc1, hc2⟩ := hx.form
  obtain ⟨A', cap', rfl, hc3, hc4⟩ := hy.form
  have HIN := Lib.hid hin
  have HX := Lib.hid hx
  have HF := Lib.hid hf
  have HY := Lib.hid hy
  have HG := Lib.hid hg
  clear hx hf hy hg
  have HT := Lib.hid htab
  clear hin htab hw
  go_enter Try.func126, Try.ntmps126
  go_wp2_with fail
  have hB0 : Below w.heap.size w (w.alloc (.cells #[.int .i64 (d : Int), .int .i64 (i : Int)] 32)) := (Below.refl _ _).alloc (Nat.le_refl _) _
  refine (spec_l1Args xs d k (i : Int) hd hk _ _ F (ArrDt.below HX.out hB0 HF.out) (HF.out.mono hB0.size) HL.out).mono ?_
  rintro e w3 ⟨v3, F3, rfl, hb3, ha3, -, hfs3⟩
  have hB3 := hB0.trans (hb3.mono hB0.size)
  generalize hass : argsL xs[d].ctors[k] (i : Int) = ls at *
  have HASS := Lib.hid hass
  clear hass
  obtain ⟨A3, cap3, rfl, hd1, hd2⟩ := ha3.form
  have HA := Lib.hid ha3
  have HUA := Lib.hid hfs3.under
  clear ha3 hfs3 hb3 hB0
  go_wp2
  go_loopw [10, 11] (fun mv jv wr => ∃ j : Nat, ∃ m : Int, j ≤ ls.length ∧ jv = .int .i64 j ∧ mv = .int .i64 m ∧ 0 ≤ m ∧ m ≤ 100000 ∧ Hid (mostGo tab 0 ls = mostGo tab m (ls.drop j)) ∧ Below w.heap.size w wr ∧ Hid (Below w3.heap.size w3 wr)) (fun _ jv _ => ls.length - (intOf jv).toNat)
  case atStart => exact ⟨0, 0, Nat.zero_le _, rfl, rfl, by omega, by omega, (show mostGo tab 0 ls = mostGo tab 0 ls from rfl), hB3, Below.refl _ _⟩
  case round =>
    obtain ⟨j, m, hj, rfl, rfl, hm0, hm1, HM, hB, HB3⟩ := hrel
    by_cases hjl : j < ls.length
    · obtain ⟨b3, off3, rfl⟩ := HA.out.ptr (by omega)
      obtain ⟨hb4, a0, a1⟩ := ArrTy.at HA.out HUA.out HB3.out j hjl
      have g5 : (0 : Int) ≤ (j : Int) := by omega
      have g6 : (j : Int) < (ls.length : Int) := by omega
      have hstep := HM.out.trans (mostGo_step hjl)
      have HST := Lib.hid hstep
      clear hstep
      go_wp2_with fail
      refine (spec_l1Depth xs.length hn4 tab HT.out ls[j] (HIN.out _ (List.getElem_mem hjl)) wr _ G (ArrNat.below HY.out hB HG.out) (HG.out.mono hB.size)).mono ?_
      rintro e w5 ⟨rfl, hb5⟩
      have hB5 := hB.trans (hb5.mono hB.size)
      have HB5 := Lib.hid (HB3.out.trans (hb5.mono HB3.out.size))
      have hdp := HT.out.dep ls[j]
      generalize hdd : depthIn tab ls[j] = q at *
      by_cases hq : q = 0
      · have t0 : (q == 0) = true := by simp [hq]
        have hf : Hid (mostGo tab 0 ls = 0) := by have h := HST.out; rw [if_pos hq] at h; exact h
        clear hdd hq
        go_wp2
        go_ret
        exact ⟨ret_int (by rw [HASS.out]; exact hf.out.symm), hB5⟩
      · have t0 : (q == 0) = false := by simpa using hq
        have h2 : mostGo tab 0 ls = mostGo tab (max m q) (ls.drop (j + 1)) := by have h := HST.out; rw [if_neg hq] at h; exact h
        clear hdd hq
        by_cases hgt : m < q
        · have t1 : decide (q > m) = true := by simpa using hgt
          rw [show max m q = q by omega] at h2
          have HM2 := Lib.hid h2
          clear h2 hgt
          go_wp2
          go_roundw
          case rel => exact ⟨j + 1, q, by omega, by go_num, rfl, by omega, by omega, HM2, hB5, HB5⟩
          case measure => (simp [intOf] <;> omega)
        · have t1 : decide (q > m) = false := by simp; omega
          rw [show max m q = m by omega] at h2
          have HM2 := Lib.hid h2
          clear h2 hgt
          go_wp2
          go_roundw
          case rel => exact ⟨j + 1, m, by omega, by go_num, rfl, by omega, by omega, HM2, hB5, HB5⟩
          case measure => (simp [intOf] <;> omega)
    · have hf : Hid (mostGo tab 0 ls = m + 1) := by
        have h := HM.out
        rw [List.drop_of_length_le (by omega)] at h
        exact h
      go_wp2
      go_ret
      exact ⟨ret_int (by rw [HASS.out]; exact hf.out.symm), hB⟩
end Go.Proofs.Ytilndhmegaccmaa

namespace Go.Proofs.Ytilndhmegaccmaa
open Go.RowKit

def cellsOf (l : List Int) : Array Value := (l.map (Value.int .i64)).toArray
/-- the sixteen cells of the program's table -/
def pad (tab : List Int) : List Int := tab ++ List.replicate (16 - tab.length) 0
theorem cellsOf_get {l : List Int} {s : Nat} (h : s < l.length) : (cellsOf l)[s]? = some (.int .i64 l[s]) := by
  unfold cellsOf
  simp [List.getElem?_map, List.getElem?_eq_getElem h]
theorem cellsOf_set (l : List Int) (s : Nat) (n : Int) : (cellsOf l).setIfInBounds s (.int .i64 n) = cellsOf (l.set s n) := by
  unfold cellsOf
  rw [List.setIfInBounds_toArray, List.map_set]
theorem pad_get {tab : List Int} {s : Nat} (h : s < tab.length) (h2 : s < (pad tab).length) : (pad tab)[s] = tab[s] := by
  have h3 : (pad tab)[s]? = some tab[s] := by unfold pad; rw [List.getElem?_append_left h, List.getElem?_eq_getElem h]
  rw [List.getElem?_eq_getElem h2] at h3
  exact Option.some.inj h3
theorem pad_len {tab : List Int} (h : tab.length ≤ 16) : (pad tab).length = 16 := by unfold pad; rw [List.length_append, List.length_replicate]; omega
theorem pad_set {tab : List Int} {s : Nat} (h : s < tab.length) (n : Int) : (pad tab).set s n = pad (tab.set s n) := by
  unfold pad; rw [List.set_append_left _ _ h, List.length_set]
/-- block g holds the program's table -/
def Tab (w : World) (g : Nat) (tab : List Int) : Prop := Blk w g 158 (cellsOf (pad tab))
theorem Tab.cell {w : World} {g : Nat} {tab : List Int} (h : Tab w g tab) {s : Nat} (hs : s < tab.length) : w.cell? ⟨g, s, none⟩ = some (.int .i64 tab[s]) := by
  have hp : s < (pad tab).length := by unfold pad; rw [List.length_append]; omega
  rw [(show Blk w g 158 (cellsOf (pad tab)) from h).cell s, cellsOf_get hp, pad_get hs hp]

set_option maxRecDepth 100000 in
set_option maxHeartbeats 1600000 in
theorem impl_of (n : Nat) (hn : n ≤ 4) (tab : List Int) (htab : Small n tab) (t : Ty) (ht : TyIn n t) (w : World) (g : Nat) (hx : Tab w g tab) :
    Calls Try.prog 80 #[.pointer (some ⟨g, 0, none⟩), .agg #[.int .i64 t.d, .int .i64 t.i]] w fun e w' => e = .returned (.int .i64 (depthIn tab t)) ∧ Below w.heap.size w w' := by
  have hgl := Blk.lt hx
  have HX := Lib.hid hx
  clear hx
  rcases ht with ht | ⟨d, i, rfl, hd, hi⟩
  · have hf := Lib.hid (depthIn_int (tab := tab) ht)
    have t0 : (t.d == -1) = true := by simp [ht]
    clear ht
    go_enter Try.func80, Try.ntmps80
    go_wp2
    go_ret
    exact ⟨ret_int hf.out.symm, (Below.refl _ _).alloc (Nat.le_refl _) _⟩
  · have hsl : d * 4 + i < tab.length := by rw [htab.len]; omega
    have hf := Lib.hid (depthIn_data hsl)
    have t0 : ((d : Int) == -1) = false := by rw [beq_eq_false_iff_ne]; omega
    have c0 := HX.out.cell hsl
    have g1 : (0 : Int) ≤ (d : Int) := by omega
    have g2 : (d : Int) < 4 := by omega
    have g3 : (0 : Int) ≤ (i : Int) := by omega
    have g4 : (i : Int) < 4 := by omega
    have HB := Lib.hid (fun q => below_drewN ((Below.refl w.heap.size w).alloc (Nat.le_refl _) (.cells #[.int .i64 (d : Int), .int .i64 (i : Int)] 32)) q)
    go_enter Try.func80, Try.ntmps80
    go_wp2_with fail
    go_quiet (fail)
    go_wp2
    go_ret
    exact ⟨ret_int hf.out.symm, HB.out _⟩

set_option maxRecDepth 100000 in
set_option maxHeartbeats 1600000 in
theorem impl_ofCtor (xs : List Dt) (hw : WorldOK xs) (tab : List Int) (htab : Small xs.length tab) (d i k : Nat) (hd : d < xs.length) (hi : i < 4) (hk : k < xs[d].ctors.length) (w : World) (v : Value) (F : List Nat) (g : Nat) (hx : Arr w (DtR w) xs v F) (hf : Under w.heap.size F) (hy : Tab w g tab) :
    Calls Try.prog 123 #[.pointer (some ⟨g, 0, none⟩), v, .agg #[.int .i64 (d : Int), .int .i64 (i : Int)], .int .i64 (k : Int)] w fun e w' => e = .returned (.int .i64 (mostIn xs tab ⟨(d : Int), (i : Int)⟩ (k : Int))) ∧ Below w.heap.size w w' := by
  have hmi : mostIn xs tab ⟨(d : Int), (i : Int)⟩ (k : Int) = mostGo tab 0 (argsL xs[d].ctors[k] (i : Int)) := by unfold mostIn; rw [argsOf_get hd hk]
  rw [hmi]
  clear hmi
  have hin : ∀ a ∈ argsL xs[d].ctors[k] (i : Int), TyIn xs.length a := fun a ha => argTy_in (hw.ctor hd hk) (by omega) (by omega) ha
  have hlen : (argsL xs[d].ctors[k] (i : Int)).length ≤ 3 := by rw [argsL_len]; exact (hw.ctor hd hk).args
  have HL := Lib.hid (hw.ctor hd hk).args
  have hn4 := hw.len
  have hgl := Blk.lt hy
  obtain ⟨A, cap, rfl, hc1, hc2⟩ := hx.form
  have HIN := Lib.hid hin
  have HX := Lib.hid hx
  have HF := Lib.hid hf
  have HY := Lib.hid hy
  clear hx hf hy
  have HT := Lib.hid htab
  clear hin htab hw
  go_enter Try.func123, Try.ntmps123
  go_wp2_with fail
  have hB0 : Below w.heap.size w (w.alloc (.cells #[.int .i64 (d : Int), .int .i64 (i : Int)] 32)) := (Below.refl _ _).alloc (Nat.le_refl _) _
  refine (impl_argTypes xs d k (i : Int) hd hk _ _ F (ArrDt.below HX.out hB0 HF.out) (HF.out.mono hB0.size) HL.out).mono ?_
  rintro e w3 ⟨v3, F3, rfl, hb3, ha3, -, hfs3⟩
  have hB3 := hB0.trans (hb3.mono hB0.size)
  generalize hass : argsL xs[d].ctors[k] (i : Int) = ls at *
  have HASS := Lib.hid hass
  clear hass
  obtain ⟨A3, cap3, rfl, hd1, hd2⟩ := ha3.form
  have HA := Lib.hid ha3
  have HUA := Lib.hid hfs3.under
  clear ha3 hfs3 hb3 hB0
  go_wp2
  go_loopw [9, 18] (fun mv jv wr => ∃ j : Nat, ∃ m : Int, j ≤ ls.length ∧ jv = .int .i64 j ∧ mv = .int .i64 m ∧ 0 ≤ m ∧ m ≤ 100000 ∧ Hid (mostGo tab 0 ls = mostGo tab m (ls.drop j)) ∧ Below w.heap.size w wr ∧ Hid (Below w3.heap.size w3 wr)) (fun _ jv _ => ls.length - (intOf jv).toNat)
  case atStart => exact ⟨0, 0, Nat.zero_le _, rfl, rfl, by omega, by omega, (show mostGo tab 0 ls = mostGo tab 0 ls from rfl), hB3, Below.refl _ _⟩
  case round =>
    obtain ⟨j, m, hj, rfl, rfl, hm0, hm1, HM, hB, HB3⟩ := hrel
    by_cases hjl : j < ls.length
    · obtain ⟨b3, off3, rfl⟩ := HA.out.ptr (by omega)
      obtain ⟨hb4, a0, a1⟩ := ArrTy.at HA.out HUA.out HB3.out j hjl
      have g5 : (0 : Int) ≤ (j : Int) := by omega
      have g6 : (j : Int) < (ls.length : Int) := by omega
      have hstep := HM.out.trans (mostGo_step hjl)
      have HST := Lib.hid hstep
      have hbx : Below wr.heap.size wr (wr.alloc (.cells #[.int .i64 ls[j].d, .int .i64 ls[j].i] 32)) := (Below.refl _ _).alloc (Nat.le_refl _) _
      have hBx := hB.trans (hbx.mono hB.size)
      have HYx : Hid (Tab (wr.alloc (.cells #[.int .i64 ls[j].d, .int .i64 ls[j].i] 32)) g tab) := Blk.same HY.out (hBx.block _ hgl)
      clear hstep
      go_wp2_with fail
      refine (impl_of xs.length hn4 tab HT.out ls[j] (HIN.out _ (List.getElem_mem hjl)) _ g HYx.out).mono ?_
      rintro e w5 ⟨rfl, hb5⟩
      have hB5 := hBx.trans (hb5.mono hBx.size)
      have HB5 := Lib.hid ((HB3.out.trans (hbx.mono HB3.out.size)).trans (hb5.mono (HB3.out.trans (hbx.mono HB3.out.size)).size))
      have hdp := HT.out.dep ls[j]
      generalize hdd : depthIn tab ls[j] = q at *
      by_cases hq : q = 0
      · have t0 : (q == 0) = true := by simp [hq]
        have hf : Hid (mostGo tab 0 ls = 0) := by have h := HST.out; rw [if_pos hq] at h; exact h
        clear hdd hq
        go_wp2
        go_ret
        exact ⟨ret_int (by rw [HASS.out]; exact hf.out.symm), hB5⟩
      · have t0 : (q == 0) = false := by simpa using hq
        have h2 : mostGo tab 0 ls = mostGo tab (max m q) (ls.drop (j + 1)) := by have h := HST.out; rw [if_neg hq] at h; exact h
        clear hdd hq
        have HM2 := Lib.hid h2
        clear h2
        go_wp2
        go_roundw
        case rel => exact ⟨j + 1, max m q, by omega, by go_num, (by congr 1; omega), by omega, by omega, HM2, hB5, HB5⟩
        case measure => (simp [intOf] <;> omega)
    · have hf : Hid (mostGo tab 0 ls = m + 1) := by
        have h := HM.out
        rw [List.drop_of_length_le (by omega)] at h
        exact h
      go_wp2
      go_ret
      exact ⟨ret_int (by rw [HASS.out]; exact hf.out.symm), hB⟩
end Go.Proofs.Ytilndhmegaccmaa

namespace Go.Proofs.Ytilndhmegaccmaa
open Go.RowKit

/-- the table in sweep n, at slot s, when i constructors of it have been looked at -/
def St (xs : List Dt) (n s i : Nat) : List Int := slotGo xs s (sweepTo xs (sweeps xs n) s) ((ctorsL xs (tyAt s)).take i)
theorem St_zero (xs : List Dt) (n s : Nat) : St xs n s 0 = sweepTo xs (sweeps xs n) s := rfl
theorem St_step {xs : List Dt} {n s i : Nat} (h : i < (ctorsL xs (tyAt s)).length) : St xs n s (i + 1) = putIf (St xs n s i) s (mostIn xs (St xs n s i) (tyAt s) (ctorsL xs (tyAt s))[i]) := by
  unfold St; rw [take_snoc' _ i h, slotGo_snoc]
theorem St_all {xs : List Dt} {n s i : Nat} (h : (ctorsL xs (tyAt s)).length ≤ i) : St xs n s i = sweepTo xs (sweeps xs n) (s + 1) := by
  unfold St; rw [List.take_of_length_le h, sweepTo_succ]
theorem St_sound {xs : List Dt} (hw : WorldOK xs) {n s i : Nat} (hs : s < xs.length * 4) : Sound xs (St xs n s i) :=
  Sound.slot hw hs (fun k hk => List.mem_of_mem_take hk) ((sound_sweeps hw n).to hw (by omega))
theorem St_le {xs : List Dt} {n s i : Nat} (hs : s < xs.length * 4) : Le (sweeps xs n) (St xs n s i) :=
  (le_to xs _ s (by rw [sweeps_length]; omega)).trans (le_slot xs s _ _ (by rw [sweepTo_length, sweeps_length]; exact hs))
def MaxB (tab : List Int) (B : Int) : Prop := ∀ s, tab.getD s 0 ≤ B
theorem mostGo_max {tab : List Int} {B : Int} (h : MaxB tab B) (hB : 1 ≤ B) : ∀ {ls : List Ty} {m : Int}, m ≤ B → mostGo tab m ls ≤ B + 1
  | [], m, hm => by simp only [mostGo]; omega
  | a :: ls, m, hm => by
    simp only [mostGo]
    split
    · omega
    · refine mostGo_max h hB ?_
      have : depthIn tab a ≤ B := by
        unfold depthIn
        split
        · omega
        · exact h _
      omega
theorem put_max {xs : List Dt} {tab : List Int} {B : Int} (h : MaxB tab B) (hB : 1 ≤ B) (s : Nat) (k : Int) : MaxB (putIf tab s (mostIn xs tab (tyAt s) k)) (B + 1) := by
  intro r
  unfold putIf
  split
  · by_cases hs : s < tab.length
    · rw [getD_set _ _ _ _ hs]
      split
      · exact mostGo_max h hB (by omega)
      · have := h r; omega
    · rw [List.set_eq_of_length_le (by omega)]; have := h r; omega
  · have := h r; omega
theorem slot_max {xs : List Dt} (s : Nat) : ∀ (ks : List Int) {tab : List Int} {B : Int}, MaxB tab B → 1 ≤ B → MaxB (slotGo xs s tab ks) (B + ks.length)
  | [], tab, B, h, _ => fun r => by have := h r; simpa [slotGo_nil] using this
  | k :: ks, tab, B, h, hB => by
    rw [slotGo_cons]
    have := slot_max (xs := xs) s ks (put_max (xs := xs) h hB s k) (by omega)
    intro r
    have := this r
    simp only [List.length_cons]
    omega
theorem ctorsL_len {xs : List Dt} (hw : WorldOK xs) {s : Nat} (hs : s < xs.length * 4) : (ctorsL xs (tyAt s)).length ≤ 4 := by
  have hd : s / 4 < xs.length := by omega
  have e : ctorsL xs (tyAt s) = fitTo xs[s / 4].ctors ((s % 4 : Nat) : Int) xs[s / 4].ctors.length := ctorsL_data hd
  rw [e]
  exact Nat.le_trans (fitTo_len _ _ _) (hw.at hd).hi
theorem to_max {xs : List Dt} (hw : WorldOK xs) {tab : List Int} {B : Int} (h : MaxB tab B) (hB : 1 ≤ B) : ∀ {s : Nat}, s ≤ xs.length * 4 → MaxB (sweepTo xs tab s) (B + 4 * s)
  | 0, _ => fun r => by have := h r; simpa [sweepTo_zero] using this
  | s + 1, hs => by
    rw [sweepTo_succ]
    have h1 := slot_max (xs := xs) s (ctorsL xs (tyAt s)) (to_max hw h hB (s := s) (by omega)) (by omega)
    have h2 := ctorsL_len hw (s := s) (by omega)
    intro r
    have := h1 r
    omega
theorem sweeps_max {xs : List Dt} (hw : WorldOK xs) : ∀ n, MaxB (sweeps xs n) (1 + 64 * n)
  | 0 => fun r => by
    simp only [sweeps, List.getD]
    rcases Nat.lt_or_ge r (xs.length * 4) with h | h <;> simp [h]
  | n + 1 => fun r => by
    have h := to_max hw (sweeps_max hw n) (by omega) (Nat.le_refl (xs.length * 4)) r
    have hl := hw.len
    show (sweepTo xs (sweeps xs n) (xs.length * 4)).getD r 0 ≤ _
    omega
theorem St_small {xs : List Dt} (hw : WorldOK xs) {n s i : Nat} (hs : s < xs.length * 4) (hn : n ≤ 100) : Small xs.length (St xs n s i) := by
  have h1 := St_sound hw (n := n) (i := i) hs
  refine ⟨h1.len, h1.pos, fun r => ?_⟩
  have h2 := slot_max (xs := xs) s ((ctorsL xs (tyAt s)).take i) (to_max hw (sweeps_max hw n) (by omega) (s := s) (by omega)) (by omega) r
  have h3 := ctorsL_len hw hs
  have h4 : ((ctorsL xs (tyAt s)).take i).length ≤ 4 := by rw [List.length_take]; omega
  have hl := hw.len
  unfold St
  omega
theorem table_small {xs : List Dt} (hw : WorldOK xs) {n : Nat} (hn : n ≤ 100) : Small xs.length (sweeps xs n) := by
  have h1 := sound_sweeps hw n
  refine ⟨h1.len, h1.pos, fun r => ?_⟩
  have := sweeps_max hw n r
  omega
theorem getD_get {tab : List Int} {s : Nat} (h : s < tab.length) : tab.getD s 0 = tab[s] := by simp [List.getD, List.getElem?_eq_getElem h]

/-- a block of numbers, read as a slice -/
theorem Blk.nats {w : World} {g : Nat} {tab : List Int} (h : Blk w g 3 (cellsOf tab)) (hm : tab.length ≤ maxLen) : Arr w (NatR w) tab (.slice (some ⟨g, 0, none⟩) tab.length tab.length) [g] ∨ tab = [] := by
  by_cases he : tab = []
  · exact .inr he
  refine .inl ⟨_, _, rfl, Nat.le_refl _, hm, .inr ⟨g, 0, tab.map (Value.int .i64), [], rfl, fun j u hj => ?_, ?_, rfl⟩⟩
  · have hjl : j < tab.length := by have := (List.getElem?_eq_some_iff.1 hj).1; simpa using this
    rw [Nat.zero_add, h.cell, cellsOf_get hjl]
    rw [List.getElem?_map, List.getElem?_eq_getElem hjl] at hj
    simpa using hj
  · have : ∀ l : List Int, Flat (NatR w) l (l.map (Value.int .i64)) [] := by
      intro l
      induction l with
      | nil => exact ⟨rfl, rfl⟩
      | cons x l ih => exact ⟨[.int .i64 x], _, [], [], rfl, rfl, ⟨rfl, rfl⟩, ih⟩
    exact this tab

set_option maxRecDepth 100000 in
set_option maxHeartbeats 1600000 in
theorem spec_l1Table (xs : List Dt) (hw : WorldOK xs) (w : World) (v : Value) (F : List Nat) (hx : Arr w (DtR w) xs v F) (hf : Under w.heap.size F) :
    Calls Try.prog 84 #[v] w (MadeNats w (tableL xs)) := by
  obtain ⟨A, cap, rfl, hc1, hc2⟩ := hx.form
  have hn4 := hw.len
  have HW := Lib.hid hw
  have HX := Lib.hid hx
  have HF := Lib.hid hf
  clear hx hf
  clear hw
  obtain ⟨i0, hi, hz0, hz1, hz2⟩ := info_parts info_int
  have hmk : ∀ W : World, (Instr.makeSlice 106 (.int .i64 ((xs.length : Int) * 4)) (.int .i64 ((xs.length : Int) * 4))).run Try.prog W = .ok (.slice (some ⟨W.heap.size, 0, none⟩) (xs.length * 4) (xs.length * 4)) (W.alloc (.cells (cellsOf (sweeps xs 0)) 3)) := fun W => by
    have h := run_make_rowN (P := Try.prog) 106 3 i0 _ Try.underlying106 hi hz0 .i64 .i64 (xs.length * 4) (xs.length * 4) (Nat.le_refl _) (by rw [hz2]; omega) (by omega) W
    rw [hz1, show ((xs.length * 4 : Nat) : Int) = (xs.length : Int) * 4 by omega] at h
    rw [h]
    congr 2
    have e : (madeCells #[Value.int .i64 0] (xs.length * 4)).toList = (cellsOf (sweeps xs 0)).toList := by
      rw [toList_madeCells_one]
      unfold cellsOf
      simp [sweeps]
    show Obj.cells (madeCells #[Value.int .i64 0] (xs.length * 4 * 1)) _ _ = _
    rw [Nat.mul_one]
    congr 1
    exact Array.toList_inj.1 e
  clear hi hz0 hz1 hz2
  go_enter Try.func84, Try.ntmps84
  go_wp2
  clear hmk
  have hB0 : Below w.heap.size w (w.alloc (.cells (cellsOf (sweeps xs 0)) 3)) := (Below.refl _ _).alloc (Nat.le_refl _) _
  have HT0 : Hid (Blk (w.alloc (.cells (cellsOf (sweeps xs 0)) 3)) w.heap.size 3 (cellsOf (sweeps xs 0))) := Blk.new _ _ _
  go_loopw [4] (fun nv wr => ∃ n : Nat, n ≤ xs.length * 4 + 1 ∧ nv = .int .i64 n ∧ Hid (Blk wr w.heap.size 3 (cellsOf (sweeps xs n))) ∧ Below w.heap.size w wr) (fun nv _ => xs.length * 4 + 1 - (intOf nv).toNat)
  case atStart => exact ⟨0, Nat.zero_le _, rfl, HT0, hB0⟩
  case round =>
    clear hB0 HT0
    obtain ⟨n, hn, rfl, HT, hB⟩ := hrel
    by_cases hnl : n ≤ xs.length * 4
    · have t9 : decide ((n : Int) ≤ (xs.length : Int) * 4) = true := by simp; omega
      go_wp2
      clear t9
      obtain ⟨wo, hwo⟩ : ∃ wo : World, wo = wr := ⟨_, rfl⟩
      go_loopw [5] (fun sv ws => ∃ s : Nat, s ≤ xs.length * 4 ∧ sv = .int .i64 s ∧ Hid (Blk ws w.heap.size 3 (cellsOf (sweepTo xs (sweeps xs n) s))) ∧ Below w.heap.size w ws) (fun sv _ => xs.length * 4 - (intOf sv).toNat)
      case atStart => exact ⟨0, Nat.zero_le _, rfl, HT, hB⟩
      case round =>
        clear hwo HT hB
        obtain ⟨s, hs, rfl, HT, hB⟩ := hrel
        by_cases hsl : s < xs.length * 4
        · obtain ⟨q, hq⟩ : ∃ q : Nat, q = s / 4 := ⟨_, rfl⟩
          obtain ⟨r, hr⟩ : ∃ r : Nat, r = s % 4 := ⟨_, rfl⟩
          have hsq : s = q * 4 + r := by omega
          have hql : q < xs.length := by omega
          have hrl : r < 4 := by omega
          have eq : (s : Int) / 4 = (q : Int) := by omega
          have er : (s : Int) % 4 = (r : Int) := by omega
          have hty : tyAt s = ⟨(q : Int), (r : Int)⟩ := by rw [hsq]; exact tyAt_mk hrl
          have HTY := Lib.hid hty
          have HSQ := Lib.hid hsq
          clear hq hr hty hsq
          have hgl := HT.out.lt
          have hbx : Below wr.heap.size wr (wr.alloc (.cells #[.int .i64 (q : Int), .int .i64 (r : Int)] 32)) := (Below.refl _ _).alloc (Nat.le_refl _) _
          have hBx := hB.trans (hbx.mono hB.size)
          have HTx : Hid (Blk (wr.alloc (.cells #[.int .i64 (q : Int), .int .i64 (r : Int)] 32)) w.heap.size 3 (cellsOf (sweepTo xs (sweeps xs n) s))) := HT.out.same (hbx.block _ hgl)
          have KXx : Hid (Blk (wr.alloc (.cells #[.int .i64 (q : Int), .int .i64 (r : Int)] 32)) wr.heap.size 32 #[.int .i64 (q : Int), .int .i64 (r : Int)]) := Blk.new _ _ _
          go_wp2_with fail
          clear eq er
          refine (spec_l1Ctors xs ⟨(q : Int), (r : Int)⟩ _ _ F (ArrDt.below HX.out hBx HF.out) (HF.out.mono hBx.size) HW.out (.inr ⟨q, rfl, hql⟩)).mono ?_
          rintro e w3 ⟨v3, F3, rfl, hb3, ha3, -, hfs3⟩
          have hB3 := hBx.trans (hb3.mono hBx.size)
          have HT3 := Lib.hid (HTx.out.same (hb3.block _ HTx.out.lt))
          have KX3 := Lib.hid (KXx.out.same (hb3.block _ KXx.out.lt))
          rw [← HTY.out] at ha3
          obtain ⟨A3, cap3, rfl, hd1, hd2⟩ := ha3.form
          have HA3 := Lib.hid ha3
          have HU3 := Lib.hid hfs3.under
          have hgx : wr.heap.size < (wr.alloc (.cells #[.int .i64 (q : Int), .int .i64 (r : Int)] 32)).heap.size := by simp
          have HN3 : Hid (w.heap.size ∉ F3) := fun h => by have := (hfs3 _ h).1; omega
          have HS0 : Hid (Blk w3 w.heap.size 3 (cellsOf (St xs n s 0))) := HT3
          have hne : w.heap.size ≠ wr.heap.size := by omega
          have hbt := wr.heap.size
          generalize hbte : wr.heap.size = bt at *
          have HNE := Lib.hid hne
          clear hbt hbte ha3 hfs3 hb3 hgx HT3 HTx KXx hbx hBx hB HT hne hgl
          go_wp2
          obtain ⟨wo, hwo⟩ : ∃ wo : World, wo = w3 := ⟨_, rfl⟩
          go_loopw [8] (fun iv ws => ∃ i : Nat, i ≤ (ctorsL xs (tyAt s)).length ∧ iv = .int .i64 i ∧ Hid (Blk ws w.heap.size 3 (cellsOf (St xs n s i))) ∧ Hid (Blk ws bt 32 #[.int .i64 (q : Int), .int .i64 (r : Int)]) ∧ Hid (Arr ws (NatR ws) (ctorsL xs (tyAt s)) (.slice A3 (ctorsL xs (tyAt s)).length cap3) F3 ∧ Under ws.heap.size F3) ∧ Below w.heap.size w ws) (fun iv _ => (ctorsL xs (tyAt s)).length - (intOf iv).toNat)
          case atStart => exact ⟨0, Nat.zero_le _, rfl, HS0, KX3, ⟨HA3.out, HU3.out⟩, hB3⟩
          case round =>
            clear hwo HS0 KX3 HA3 HU3 hB3
            obtain ⟨i, hi, rfl, HS, KX, HA, hB⟩ := hrel
            have hgl := HS.out.lt
            have hbl := KX.out.lt
            by_cases hil : i < (ctorsL xs (tyAt s)).length
            · obtain ⟨b7, off7, rfl⟩ := HA.out.1.ptr (by omega)
              obtain ⟨hb7, c7⟩ := ArrNat.at HA.out.1 HA.out.2 (Below.refl _ _) i hil
              obtain ⟨d', k, e1, hki, hd', hk'⟩ := mem_ctorsL (xs := xs) (t := tyAt s) (by rw [HTY.out]; exact .inr ⟨q, rfl, hql⟩) (List.getElem_mem hil)
              rw [HTY.out] at e1
              obtain rfl : q = d' := Int.ofNat.inj e1
              rw [hki] at c7
              have hstep := St_step (n := n) hil
              have hmo : mostIn xs (St xs n s i) (tyAt s) (ctorsL xs (tyAt s))[i] = mostIn xs (St xs n s i) ⟨(q : Int), (r : Int)⟩ (k : Int) := by rw [hki]; exact congrArg (fun t => mostIn xs (St xs n s i) t (k : Int)) HTY.out
              rw [hmo] at hstep
              have HST := Lib.hid hstep
              clear hstep hmo e1 hki
              have hsm := St_small HW.out (n := n) (i := i) hsl (by omega)
              have hsll : s < (St xs n s i).length := by rw [hsm.len]; exact hsl
              have hnat := (HS.out.nats (by rw [hsm.len]; unfold maxLen; omega)).resolve_right (fun e => by rw [e] at hsll; simp at hsll)
              rw [hsm.len] at hnat
              have HNAT := Lib.hid hnat
              have HSM := Lib.hid hsm
              have HUG : Hid (Under wr.drew.heap.size [w.heap.size]) := fun b hb => by rw [List.mem_singleton] at hb; rw [hb]; exact hgl
              clear hnat hsm
              have y0 : wr.cell? ⟨bt, 0, none⟩ = some (.int .i64 (q : Int)) := (KX.out.cell 0).trans (by simp)
              have y1 : wr.cell? ⟨bt, 1, none⟩ = some (.int .i64 (r : Int)) := (KX.out.cell 1).trans (by simp)
              have g1 : (0 : Int) ≤ (i : Int) := by omega
              have g2 : (i : Int) < ((ctorsL xs (tyAt s)).length : Int) := by omega
              go_wp2_with fail
              have hkeep : ∀ U U' : World, (U.cell? ⟨bt, 0, none⟩ = some (.int .i64 (q : Int)) ∧ U.cell? ⟨bt, 1, none⟩ = some (.int .i64 (r : Int)) ∧ U.cell? ⟨b7, off7 + i, none⟩ = some (.int .i64 (k : Int))) → Below U.heap.size U U' → wr.heap.size ≤ U.heap.size → (U'.cell? ⟨bt, 0, none⟩ = some (.int .i64 (q : Int)) ∧ U'.cell? ⟨bt, 1, none⟩ = some (.int .i64 (r : Int)) ∧ U'.cell? ⟨b7, off7 + i, none⟩ = some (.int .i64 (k : Int))) := fun U U' h hUU hU => ⟨(hUU.cell (Nat.lt_of_lt_of_le (hbl) hU)).trans h.1, (hUU.cell (Nat.lt_of_lt_of_le (hbl) hU)).trans h.2.1, (hUU.cell (Nat.lt_of_lt_of_le (hb7) hU)).trans h.2.2⟩
              have HKeep := Lib.hid hkeep
              clear hkeep
              go_region_held3 (fun w' => w'.cell? ⟨bt, 0, none⟩ = some (.int .i64 (q : Int)) ∧ w'.cell? ⟨bt, 1, none⟩ = some (.int .i64 (r : Int)) ∧ w'.cell? ⟨b7, off7 + i, none⟩ = some (.int .i64 (k : Int))) (first | assumption | (exact ⟨y0, y1, c7⟩) | (exact HKeep.out wr.drew w' ⟨y0, y1, c7⟩ hB' (Nat.le_refl _))) (first | (go_at_call 126; ((with_reducible refine (spec_l1Most xs HW.out (St xs n s i) HSM.out q r k hql hrl hk' _ _ _ F [w.heap.size] (ArrDt.below HX.out hB.drew HF.out) (HF.out.mono hB.drew.size) (ArrNat.drew HNAT.out) HUG.out).mono ?_); rintro e w' ⟨rfl, hB'⟩)))
              have hB5 := hB.drew.trans (hB'.mono hB.size)
              have HS5 := Lib.hid (HS.out.same (hB'.block _ hgl))
              have KX5 := Lib.hid (KX.out.same (hB'.block _ hbl))
              have HA5 : Hid (Arr w' (NatR w') (ctorsL xs (tyAt s)) (.slice (some ⟨b7, off7, none⟩) (ctorsL xs (tyAt s)).length cap3) F3 ∧ Under w'.heap.size F3) := ⟨ArrNat.below (w := wr) HA.out.1 (below_undrew hB') HA.out.2, HA.out.2.mono hB'.size⟩
              clear HKeep HNAT c7 y0 y1
              have z0 : w'.cell? ⟨w.heap.size, s, none⟩ = some (.int .i64 (St xs n s i)[s]) := (HS5.out.cell s).trans (cellsOf_get hsll)
              have zf := HS5.out.frozen s
              have hgl5 := HS5.out.lt
              have g3 : (0 : Int) ≤ (s : Int) := by omega
              have g4 : (s : Int) < (xs.length : Int) * 4 := by omega
              have hbet : better (St xs n s i) s (mostIn xs (St xs n s i) ⟨(q : Int), (r : Int)⟩ (k : Int)) = (decide (0 < mostIn xs (St xs n s i) ⟨(q : Int), (r : Int)⟩ (k : Int)) && (decide ((St xs n s i)[s] = 0) || decide (mostIn xs (St xs n s i) ⟨(q : Int), (r : Int)⟩ (k : Int) < (St xs n s i)[s]))) := by
                unfold better; rw [getD_get hsll]
              generalize hm : mostIn xs (St xs n s i) ⟨(q : Int), (r : Int)⟩ (k : Int) = m at *
              have HMM := Lib.hid hm
              generalize hold : (St xs n s i)[s] = old at *
              have HOLD := Lib.hid hold
              clear hm hold
              by_cases h0 : 0 < m
              · have t0 : decide (m > 0) = true := by simpa using h0
                by_cases h1 : old = 0
                · have t1 : (old == 0) = true := by simp [h1]
                  have hb1 : better (St xs n s i) s m = true := by rw [hbet, decide_eq_true h0, decide_eq_true h1]; rfl
                  clear hbet h1
                  have HS6 : Hid (Blk (w'.setCell ⟨w.heap.size, s, none⟩ (.int .i64 m)) w.heap.size 3 (cellsOf (St xs n s (i + 1)))) := by
                    have h := HS5.out.set_ s (.int .i64 m)
                    rw [cellsOf_set, ← putIf_yes hb1, ← HST.out] at h
                    exact h
                  have KX6 : Hid (Blk (w'.setCell ⟨w.heap.size, s, none⟩ (.int .i64 m)) bt 32 #[.int .i64 (q : Int), .int .i64 (r : Int)]) := KX5.out.same (Below.heap_setCell _ _ _ _ (fun e => HNE.out e.symm))
                  have HA6 : Hid (Arr (w'.setCell ⟨w.heap.size, s, none⟩ (.int .i64 m)) (NatR (w'.setCell ⟨w.heap.size, s, none⟩ (.int .i64 m))) (ctorsL xs (tyAt s)) (.slice (some ⟨b7, off7, none⟩) (ctorsL xs (tyAt s)).length cap3) F3 ∧ Under (w'.setCell ⟨w.heap.size, s, none⟩ (.int .i64 m)).heap.size F3) := ⟨ArrNat.kept HA5.out.1 (Kept.set (Kept.refl _ _) HN3.out), HA5.out.2.mono (by simp [World.setCell])⟩
                  have hB6 : Below w.heap.size w (w'.setCell ⟨w.heap.size, s, none⟩ (.int .i64 m)) := hB5.setCell (Nat.le_refl _) _
                  clear hb1
                  go_wp2
                  go_roundw
                  case rel => exact ⟨i + 1, by omega, by go_num, HS6, KX6, HA6, hB6⟩
                  case measure => (simp [intOf] <;> omega)
                · have t1 : (old == 0) = false := by simpa using h1
                  by_cases h2 : m < old
                  · have hb1 : better (St xs n s i) s m = true := by rw [hbet, decide_eq_true h0, decide_eq_true h2, Bool.or_true]; rfl
                    clear hbet h1
                    have HS6 : Hid (Blk (w'.setCell ⟨w.heap.size, s, none⟩ (.int .i64 m)) w.heap.size 3 (cellsOf (St xs n s (i + 1)))) := by
                      have h := HS5.out.set_ s (.int .i64 m)
                      rw [cellsOf_set, ← putIf_yes hb1, ← HST.out] at h
                      exact h
                    have KX6 : Hid (Blk (w'.setCell ⟨w.heap.size, s, none⟩ (.int .i64 m)) bt 32 #[.int .i64 (q : Int), .int .i64 (r : Int)]) := KX5.out.same (Below.heap_setCell _ _ _ _ (fun e => HNE.out e.symm))
                    have HA6 : Hid (Arr (w'.setCell ⟨w.heap.size, s, none⟩ (.int .i64 m)) (NatR (w'.setCell ⟨w.heap.size, s, none⟩ (.int .i64 m))) (ctorsL xs (tyAt s)) (.slice (some ⟨b7, off7, none⟩) (ctorsL xs (tyAt s)).length cap3) F3 ∧ Under (w'.setCell ⟨w.heap.size, s, none⟩ (.int .i64 m)).heap.size F3) := ⟨ArrNat.kept HA5.out.1 (Kept.set (Kept.refl _ _) HN3.out), HA5.out.2.mono (by simp [World.setCell])⟩
                    have hB6 : Below w.heap.size w (w'.setCell ⟨w.heap.size, s, none⟩ (.int .i64 m)) := hB5.setCell (Nat.le_refl _) _
                    clear hb1
                    go_wp2
                    go_roundw
                    case rel => exact ⟨i + 1, by omega, by go_num, HS6, KX6, HA6, hB6⟩
                    case measure => (simp [intOf] <;> omega)
                  · have hb1 : better (St xs n s i) s m = false := by rw [hbet, decide_eq_false h1, decide_eq_false h2]; simp
                    clear hbet h1
                    have HS6 : Hid (Blk w' w.heap.size 3 (cellsOf (St xs n s (i + 1)))) := by
                      have h := HS5.out
                      rw [← movedB_not hb1, ← HST.out] at h
                      exact h
                    clear hb1
                    go_wp2
                    go_roundw
                    case rel => exact ⟨i + 1, by omega, by go_num, HS6, KX5, HA5, hB5⟩
                    case measure => (simp [intOf] <;> omega)
              · have t0 : decide (m > 0) = false := by simp; omega
                have hb1 : better (St xs n s i) s m = false := by rw [hbet, decide_eq_false h0]; rfl
                clear hbet
                have HS6 : Hid (Blk w' w.heap.size 3 (cellsOf (St xs n s (i + 1)))) := by
                  have h := HS5.out
                  rw [← movedB_not hb1, ← HST.out] at h
                  exact h
                clear hb1
                go_wp2
                go_roundw
                case rel => exact ⟨i + 1, by omega, by go_num, HS6, KX5, HA5, hB5⟩
                case measure => (simp [intOf] <;> omega)
            · have HT2 : Hid (Blk wr w.heap.size 3 (cellsOf (sweepTo xs (sweeps xs n) (s + 1)))) := by
                have h := HS.out
                rw [St_all (by omega)] at h
                exact h
              go_wp2
              go_roundw
              case rel => exact ⟨s + 1, by omega, by go_num, HT2, hB⟩
              case measure => (simp [intOf] <;> omega)
        · have HT2 : Hid (Blk wr w.heap.size 3 (cellsOf (sweeps xs (n + 1)))) := by
            have h := HT.out
            rw [show s = xs.length * 4 by omega] at h
            exact h
          go_wp2
          go_roundw
          case rel => exact ⟨n + 1, by omega, by go_num, HT2, hB⟩
          case measure => (simp [intOf] <;> omega)
    · have hfin : MadeNats w (tableL xs) (.returned (.slice (some ⟨w.heap.size, 0, none⟩) (xs.length * 4) (xs.length * 4))) wr := by
        have h := HT.out
        rw [show n = xs.length * 4 + 1 by omega] at h
        have hl : (tableL xs).length = xs.length * 4 := sweeps_length xs _
        rcases Blk.nats (tab := tableL xs) h (by rw [hl]; unfold maxLen; omega) with h1 | h1
        · rw [hl] at h1
          exact ⟨_, [w.heap.size], rfl, hB, h1, ⟨by simp, fun b hb i => by rw [List.mem_singleton] at hb; rw [hb]; exact h.frozen i⟩, fun b hb => by rw [List.mem_singleton] at hb; rw [hb]; exact ⟨Nat.le_refl _, h.lt⟩⟩
        · rw [h1] at hl
          refine ⟨_, [], rfl, hB, ⟨some ⟨w.heap.size, 0, none⟩, xs.length * 4, ?_, ?_, ?_, .inl ⟨h1, rfl⟩⟩, Free.nil _, Fresh.nil _ _⟩
          · rw [h1, ← hl]
          · rw [h1]; simp
          · unfold maxLen; omega
      have HFin := Lib.hid hfin
      clear hfin
      go_wp2
      go_ret
      exact HFin.out
end Go.Proofs.Ytilndhmegaccmaa

namespace Go.Proofs.Ytilndhmegaccmaa
open Go.RowKit

theorem Tab.same {w w' : World} {g : Nat} {tab : List Int} (h : Tab w g tab) (e : w'.heap[g]? = w.heap[g]?) : Tab w' g tab := Blk.same h e
theorem Tab.lt {w : World} {g : Nat} {tab : List Int} (h : Tab w g tab) : g < w.heap.size := Blk.lt h
theorem Tab.set {w : World} {g : Nat} {tab : List Int} (h : Tab w g tab) {s : Nat} (hs : s < tab.length) (n : Int) : Tab (w.setCell ⟨g, s, none⟩ (.int .i64 n)) g (tab.set s n) := by
  have h1 := Blk.set_ h s (.int .i64 n)
  rw [cellsOf_set, pad_set hs] at h1
  exact h1
theorem sweeps_zero_pad {xs : List Dt} (h : xs.length ≤ 4) : pad (sweeps xs 0) = List.replicate 16 0 := by
  unfold pad
  simp only [sweeps, List.length_replicate]
  rw [List.replicate_append_replicate]
  congr 1
  omega
/-- the call gives a pointer to a table of its own -/
def GivesTab (xs : List Dt) (w : World) (e : Ending) (w' : World) : Prop := ∃ g, e = .returned (.pointer (some ⟨g, 0, none⟩)) ∧ w.heap.size ≤ g ∧ Tab w' g (tableL xs) ∧ Below w.heap.size w w'

set_option maxRecDepth 100000 in
set_option maxHeartbeats 1600000 in
theorem impl_depthsOf (xs : List Dt) (hw : WorldOK xs) (w : World) (v : Value) (F : List Nat) (hx : Arr w (DtR w) xs v F) (hf : Under w.heap.size F) :
    Calls Try.prog 79 #[v] w (GivesTab xs w) := by
  obtain ⟨A, cap, rfl, hc1, hc2⟩ := hx.form
  have hn4 := hw.len
  have HW := Lib.hid hw
  have HX := Lib.hid hx
  have HF := Lib.hid hf
  clear hx hf
  clear hw
  go_enter Try.func79, Try.ntmps79
  go_wp2
  have hB0 : Below w.heap.size w (w.alloc (.cells #[.int .i64 0, .int .i64 0, .int .i64 0, .int .i64 0, .int .i64 0, .int .i64 0, .int .i64 0, .int .i64 0, .int .i64 0, .int .i64 0, .int .i64 0, .int .i64 0, .int .i64 0, .int .i64 0, .int .i64 0, .int .i64 0] 158)) := (Below.refl _ _).alloc (Nat.le_refl _) _
  have HT0 : Hid (Tab (w.alloc (.cells #[.int .i64 0, .int .i64 0, .int .i64 0, .int .i64 0, .int .i64 0, .int .i64 0, .int .i64 0, .int .i64 0, .int .i64 0, .int .i64 0, .int .i64 0, .int .i64 0, .int .i64 0, .int .i64 0, .int .i64 0, .int .i64 0] 158)) w.heap.size (sweeps xs 0)) := by
    unfold Hid Tab
    rw [sweeps_zero_pad hn4]
    exact Blk.new _ _ _
  go_loopg [4] (xs.length * 4 + 3) (fun gk cv wr => ∃ m : Nat, ∃ c : Bool, m + gk = xs.length * 4 + 3 ∧ cv = .bool c ∧ Hid (c = false → sweep xs (sweeps xs m) = sweeps xs m) ∧ (c = true → m ≤ xs.length * 4 + 1) ∧ Hid (Tab wr w.heap.size (sweeps xs m)) ∧ Below w.heap.size w wr)
  case atStart => exact ⟨0, true, by omega, rfl, (fun h => by cases h), (fun _ => by omega), HT0, hB0⟩
  case round =>
    clear hB0 HT0
    obtain ⟨m, c, hmk, rfl, HFX, hmc, HT, hB⟩ := hrel
    cases c with
    | false =>
      have hfin : GivesTab xs w (.returned (.pointer (some ⟨w.heap.size, 0, none⟩))) wr := ⟨_, rfl, Nat.le_refl _, by rw [← fix_table HW.out (HFX.out rfl)]; exact HT.out, hB⟩
      have HFin := Lib.hid hfin
      clear hfin hmc
      go_wp2
      go_ret
      exact HFin.out
    | true =>
      have hm1 := hmc rfl
      clear hmc HFX
      go_wp2
      obtain ⟨wo, hwo⟩ : ∃ wo : World, wo = wr := ⟨_, rfl⟩
      go_loopw [4, 16] (fun cv qv ws => ∃ q : Nat, q ≤ xs.length ∧ qv = .int .i64 q ∧ cv = .bool (movedB (sweeps xs m) (sweepTo xs (sweeps xs m) (q * 4))) ∧ Hid (Tab ws w.heap.size (sweepTo xs (sweeps xs m) (q * 4))) ∧ Below w.heap.size w ws) (fun _ qv _ => xs.length - (intOf qv).toNat)
      case atStart => exact ⟨0, Nat.zero_le _, rfl, (by rw [show (0 : Nat) * 4 = 0 from rfl, sweepTo_zero, movedB_refl]), HT, hB⟩
      case round =>
        clear hwo HT hB
        obtain ⟨q, hq, rfl, rfl, HT, hB⟩ := hrel
        by_cases hql : q < xs.length
        · have g1 : (0 : Int) ≤ (q : Int) := by omega
          have g2 : (q : Int) < (xs.length : Int) := by omega
          generalize hcv : movedB (sweeps xs m) (sweepTo xs (sweeps xs m) (q * 4)) = cb
          have HCV := Lib.hid hcv
          clear hcv
          go_wp2
          obtain ⟨wo, hwo⟩ : ∃ wo : World, wo = wr := ⟨_, rfl⟩
          go_loopw [4, 6] (fun cv rv ws => ∃ r : Nat, ∃ c : Bool, r ≤ 4 ∧ rv = .int .i64 r ∧ cv = .bool c ∧ Hid (movedB (sweeps xs m) (sweepTo xs (sweeps xs m) (q * 4 + r)) = c) ∧ Hid (Tab ws w.heap.size (sweepTo xs (sweeps xs m) (q * 4 + r))) ∧ Below w.heap.size w ws) (fun _ rv _ => 4 - (intOf rv).toNat)
          case atStart => exact ⟨0, cb, Nat.zero_le _, rfl, rfl, HCV, HT, hB⟩
          case round =>
            clear hwo HT hB HCV
            obtain ⟨r, c, hr, rfl, rfl, HCV, HT, hB⟩ := hrel
            by_cases hrl : r < 4
            · have hty : tyAt (q * 4 + r) = ⟨(q : Int), (r : Int)⟩ := tyAt_mk hrl
              have HTY := Lib.hid hty
              clear hty
              have hsl : q * 4 + r < xs.length * 4 := by omega
              have t9 : decide ((r : Int) ≤ 3) = true := by simp; omega
              have hgl := HT.out.lt
              have hbx : Below wr.heap.size wr (wr.alloc (.cells #[.int .i64 (q : Int), .int .i64 (r : Int)] 32)) := (Below.refl _ _).alloc (Nat.le_refl _) _
              have hBx := hB.trans (hbx.mono hB.size)
              have HTx : Hid (Tab (wr.alloc (.cells #[.int .i64 (q : Int), .int .i64 (r : Int)] 32)) w.heap.size (sweepTo xs (sweeps xs m) (q * 4 + r))) := HT.out.same (hbx.block _ hgl)
              have KXx : Hid (Blk (wr.alloc (.cells #[.int .i64 (q : Int), .int .i64 (r : Int)] 32)) wr.heap.size 32 #[.int .i64 (q : Int), .int .i64 (r : Int)]) := Blk.new _ _ _
              go_wp2_with fail
              clear t9
              refine (impl_ctorsOf xs ⟨(q : Int), (r : Int)⟩ _ _ F (ArrDt.below HX.out hBx HF.out) (HF.out.mono hBx.size) HW.out (.inr ⟨q, rfl, hql⟩)).mono ?_
              rintro e w3 ⟨v3, F3, rfl, hb3, ha3, -, hfs3⟩
              have hB3 := hBx.trans (hb3.mono hBx.size)
              have HT3 := Lib.hid (HTx.out.same (hb3.block _ HTx.out.lt))
              have KX3 := Lib.hid (KXx.out.same (hb3.block _ KXx.out.lt))
              rw [← HTY.out] at ha3
              obtain ⟨A3, cap3, rfl, hd1, hd2⟩ := ha3.form
              have HA3 := Lib.hid ha3
              have HU3 := Lib.hid hfs3.under
              have hgx : wr.heap.size < (wr.alloc (.cells #[.int .i64 (q : Int), .int .i64 (r : Int)] 32)).heap.size := by simp
              have HN3 : Hid (w.heap.size ∉ F3) := fun h => by have := (hfs3 _ h).1; omega
              have HS0 : Hid (Tab w3 w.heap.size (St xs m (q * 4 + r) 0)) := HT3
              have HC0 : Hid (movedB (sweeps xs m) (St xs m (q * 4 + r) 0) = c) := HCV
              have hne : w.heap.size ≠ wr.heap.size := by omega
              have hbt := wr.heap.size
              generalize hbte : wr.heap.size = bt at *
              have HNE := Lib.hid hne
              clear hbt hbte ha3 hfs3 hb3 hgx HT3 HTx KXx hbx hBx hB HT hne hgl HCV
              generalize hse : q * 4 + r = s at *
              have HSE := Lib.hid hse
              clear hse
              go_wp2
              obtain ⟨wo, hwo⟩ : ∃ wo : World, wo = w3 := ⟨_, rfl⟩
              go_loopw [4, 30] (fun cv iv ws => ∃ i : Nat, ∃ c : Bool, i ≤ (ctorsL xs (tyAt s)).length ∧ iv = .int .i64 i ∧ cv = .bool c ∧ Hid (movedB (sweeps xs m) (St xs m s i) = c) ∧ Hid (Tab ws w.heap.size (St xs m s i)) ∧ Hid (Blk ws bt 32 #[.int .i64 (q : Int), .int .i64 (r : Int)]) ∧ Hid (Arr ws (NatR ws) (ctorsL xs (tyAt s)) (.slice A3 (ctorsL xs (tyAt s)).length cap3) F3 ∧ Under ws.heap.size F3) ∧ Below w.heap.size w ws) (fun _ iv _ => (ctorsL xs (tyAt s)).length - (intOf iv).toNat)
              case atStart => exact ⟨0, c, Nat.zero_le _, rfl, rfl, HC0, HS0, KX3, ⟨HA3.out, HU3.out⟩, hB3⟩
              case round =>
                clear hwo HS0 KX3 HA3 HU3 hB3 HC0
                obtain ⟨i, c, hi, rfl, rfl, HC, HS, KX, HA, hB⟩ := hrel
                have hgl := HS.out.lt
                have hbl := KX.out.lt
                by_cases hil : i < (ctorsL xs (tyAt s)).length
                · obtain ⟨b7, off7, rfl⟩ := HA.out.1.ptr (by omega)
                  obtain ⟨hb7, c7⟩ := ArrNat.at HA.out.1 HA.out.2 (Below.refl _ _) i hil
                  obtain ⟨d', k, e1, hki, hd', hk'⟩ := mem_ctorsL (xs := xs) (t := tyAt s) (by rw [HTY.out]; exact .inr ⟨q, rfl, hql⟩) (List.getElem_mem hil)
                  rw [HTY.out] at e1
                  obtain rfl : q = d' := Int.ofNat.inj e1
                  rw [hki] at c7
                  have hstep := St_step (n := m) hil
                  have hmo : mostIn xs (St xs m s i) (tyAt s) (ctorsL xs (tyAt s))[i] = mostIn xs (St xs m s i) ⟨(q : Int), (r : Int)⟩ (k : Int) := by rw [hki]; exact congrArg (fun t => mostIn xs (St xs m s i) t (k : Int)) HTY.out
                  rw [hmo] at hstep
                  have HST := Lib.hid hstep
                  clear hstep hmo e1 hki
                  have hsm := St_small HW.out (n := m) (i := i) hsl (by omega)
                  have hsll : s < (St xs m s i).length := by rw [hsm.len]; exact hsl
                  have HSM := Lib.hid hsm
                  clear hsm
                  have y0 : wr.cell? ⟨bt, 0, none⟩ = some (.int .i64 (q : Int)) := (KX.out.cell 0).trans (by simp)
                  have y1 : wr.cell? ⟨bt, 1, none⟩ = some (.int .i64 (r : Int)) := (KX.out.cell 1).trans (by simp)
                  have p1 : (0 : Int) ≤ (i : Int) := by omega
                  have p2 : (i : Int) < ((ctorsL xs (tyAt s)).length : Int) := by omega
                  go_wp2_with fail
                  refine (impl_ofCtor xs HW.out (St xs m s i) HSM.out q r k hql hrl hk' wr _ F w.heap.size (ArrDt.below HX.out hB HF.out) (HF.out.mono hB.size) HS.out).mono ?_
                  rintro e w5 ⟨rfl, hb5⟩
                  have hB5 := hB.trans (hb5.mono hB.size)
                  have HS5 := Lib.hid (HS.out.same (hb5.block _ hgl))
                  have KX5 := Lib.hid (KX.out.same (hb5.block _ hbl))
                  have HA5 : Hid (Arr w5 (NatR w5) (ctorsL xs (tyAt s)) (.slice (some ⟨b7, off7, none⟩) (ctorsL xs (tyAt s)).length cap3) F3 ∧ Under w5.heap.size F3) := ⟨ArrNat.below HA.out.1 hb5 HA.out.2, HA.out.2.mono hb5.size⟩
                  clear c7 y0 y1 hb5
                  have HDI : Hid (depthIn (St xs m s i) ⟨(q : Int), (r : Int)⟩ = (St xs m s i)[s]) := by
                    have e := HSE.out
                    subst e
                    exact depthIn_data hsll
                  have hdp := HSM.out.dep ⟨(q : Int), (r : Int)⟩
                  rw [HDI.out] at hdp
                  have hbet : better (St xs m s i) s (mostIn xs (St xs m s i) ⟨(q : Int), (r : Int)⟩ (k : Int)) = (decide (0 < mostIn xs (St xs m s i) ⟨(q : Int), (r : Int)⟩ (k : Int)) && (decide ((St xs m s i)[s] = 0) || decide (mostIn xs (St xs m s i) ⟨(q : Int), (r : Int)⟩ (k : Int) < (St xs m s i)[s]))) := by
                    unfold better; rw [getD_get hsll]
                  generalize hm : mostIn xs (St xs m s i) ⟨(q : Int), (r : Int)⟩ (k : Int) = n at *
                  have HMM := Lib.hid hm
                  generalize hold : (St xs m s i)[s] = old at *
                  have HOLD := Lib.hid hold
                  clear hm hold
                  have y0 : w5.cell? ⟨bt, 0, none⟩ = some (.int .i64 (q : Int)) := (KX5.out.cell 0).trans (by simp)
                  have y1 : w5.cell? ⟨bt, 1, none⟩ = some (.int .i64 (r : Int)) := (KX5.out.cell 1).trans (by simp)
                  have hb5l := KX5.out.lt
                  have hg5l := HS5.out.lt
                  by_cases h0 : 0 < n
                  · have t0 : decide (n > 0) = true := by simpa using h0
                    go_wp2_with fail
                    refine (impl_of xs.length hn4 (St xs m s i) HSM.out ⟨(q : Int), (r : Int)⟩ (.inr ⟨q, r, rfl, hql, hrl⟩) _ w.heap.size HS5.out).mono ?_
                    rintro e w6 ⟨rfl, hb6⟩
                    rw [HDI.out]
                    have hB6 := hB5.trans (hb6.mono hB5.size)
                    have HS6 := Lib.hid (HS5.out.same (hb6.block _ HS5.out.lt))
                    have KX6 := Lib.hid (KX5.out.same (hb6.block _ KX5.out.lt))
                    have HA6 : Hid (Arr w6 (NatR w6) (ctorsL xs (tyAt s)) (.slice (some ⟨b7, off7, none⟩) (ctorsL xs (tyAt s)).length cap3) F3 ∧ Under w6.heap.size F3) := ⟨ArrNat.below HA5.out.1 hb6 HA5.out.2, HA5.out.2.mono hb6.size⟩
                    clear hb6 y0 y1 hb5l hg5l
                    have y0 : w6.cell? ⟨bt, 0, none⟩ = some (.int .i64 (q : Int)) := (KX6.out.cell 0).trans (by simp)
                    have y1 : w6.cell? ⟨bt, 1, none⟩ = some (.int .i64 (r : Int)) := (KX6.out.cell 1).trans (by simp)
                    have hb5l := KX6.out.lt
                    have hg5l := HS6.out.lt
                    by_cases h1 : old = 0
                    · have t1 : (old == 0) = true := by simp [h1]
                      have hb1 : better (St xs m s i) s n = true := by rw [hbet, decide_eq_true h0, decide_eq_true h1]; rfl
                      clear hbet h1
                      have hsp := HSM.out.pos s
                      have HMV := Lib.hid (movedB_put (St_le hsl) hsll hb1 hsp)
                      have z0 : w6.cell? ⟨w.heap.size, q * 4 + r, none⟩ = some (.int .i64 old) := by rw [HSE.out, ← HOLD.out]; exact HS6.out.cell hsll
                      have zf : w6.frozen? ⟨w.heap.size, q * 4 + r, none⟩ = false := Blk.frozen HS6.out _
                      have HS9 : Hid (Tab (w6.setCell ⟨w.heap.size, q * 4 + r, none⟩ (.int .i64 n)) w.heap.size (St xs m s (i + 1))) := by
                        rw [HSE.out]
                        have h := HS6.out.set hsll n
                        rw [← putIf_yes hb1, ← HST.out] at h
                        exact h
                      have KX9 : Hid (Blk (w6.setCell ⟨w.heap.size, q * 4 + r, none⟩ (.int .i64 n)) bt 32 #[.int .i64 (q : Int), .int .i64 (r : Int)]) := KX6.out.same (Below.heap_setCell _ _ _ _ (fun e => HNE.out e.symm))
                      have HA9 : Hid (Arr (w6.setCell ⟨w.heap.size, q * 4 + r, none⟩ (.int .i64 n)) (NatR (w6.setCell ⟨w.heap.size, q * 4 + r, none⟩ (.int .i64 n))) (ctorsL xs (tyAt s)) (.slice (some ⟨b7, off7, none⟩) (ctorsL xs (tyAt s)).length cap3) F3 ∧ Under (w6.setCell ⟨w.heap.size, q * 4 + r, none⟩ (.int .i64 n)).heap.size F3) := ⟨ArrNat.kept HA6.out.1 (Kept.set (Kept.refl _ _) HN3.out), HA6.out.2.mono (by simp [World.setCell])⟩
                      have hB9 : Below w.heap.size w (w6.setCell ⟨w.heap.size, q * 4 + r, none⟩ (.int .i64 n)) := hB6.setCell (Nat.le_refl _) _
                      have HC9 : Hid (movedB (sweeps xs m) (St xs m s (i + 1)) = true) := by rw [HST.out]; exact HMV.out
                      clear hb1 hsp
                      go_wp2
                      go_roundw
                      case rel => exact ⟨i + 1, true, by omega, by go_num, rfl, HC9, HS9, KX9, HA9, hB9⟩
                      case measure => (simp [intOf] <;> omega)
                    · have t1 : (old == 0) = false := by simpa using h1
                      go_wp2_with fail
                      refine (impl_of xs.length hn4 (St xs m s i) HSM.out ⟨(q : Int), (r : Int)⟩ (.inr ⟨q, r, rfl, hql, hrl⟩) _ w.heap.size HS6.out).mono ?_
                      rintro e w7 ⟨rfl, hb7⟩
                      rw [HDI.out]
                      have hB7 := hB6.trans (hb7.mono hB6.size)
                      have HS7 := Lib.hid (HS6.out.same (hb7.block _ HS6.out.lt))
                      have KX7 := Lib.hid (KX6.out.same (hb7.block _ KX6.out.lt))
                      have HA7 : Hid (Arr w7 (NatR w7) (ctorsL xs (tyAt s)) (.slice (some ⟨b7, off7, none⟩) (ctorsL xs (tyAt s)).length cap3) F3 ∧ Under w7.heap.size F3) := ⟨ArrNat.below HA6.out.1 hb7 HA6.out.2, HA6.out.2.mono hb7.size⟩
                      clear hb7 y0 y1 hb5l hg5l
                      have y0 : w7.cell? ⟨bt, 0, none⟩ = some (.int .i64 (q : Int)) := (KX7.out.cell 0).trans (by simp)
                      have y1 : w7.cell? ⟨bt, 1, none⟩ = some (.int .i64 (r : Int)) := (KX7.out.cell 1).trans (by simp)
                      have hb5l := KX7.out.lt
                      have hg5l := HS7.out.lt
                      by_cases h2 : n < old
                      · have hb1 : better (St xs m s i) s n = true := by rw [hbet, decide_eq_true h0, decide_eq_true h2, Bool.or_true]; rfl
                        clear hbet h1
                        have hsp := HSM.out.pos s
                        have HMV := Lib.hid (movedB_put (St_le hsl) hsll hb1 hsp)
                        have z0 : w7.cell? ⟨w.heap.size, q * 4 + r, none⟩ = some (.int .i64 old) := by rw [HSE.out, ← HOLD.out]; exact HS7.out.cell hsll
                        have zf : w7.frozen? ⟨w.heap.size, q * 4 + r, none⟩ = false := Blk.frozen HS7.out _
                        have HS9 : Hid (Tab (w7.setCell ⟨w.heap.size, q * 4 + r, none⟩ (.int .i64 n)) w.heap.size (St xs m s (i + 1))) := by
                          rw [HSE.out]
                          have h := HS7.out.set hsll n
                          rw [← putIf_yes hb1, ← HST.out] at h
                          exact h
                        have KX9 : Hid (Blk (w7.setCell ⟨w.heap.size, q * 4 + r, none⟩ (.int .i64 n)) bt 32 #[.int .i64 (q : Int), .int .i64 (r : Int)]) := KX7.out.same (Below.heap_setCell _ _ _ _ (fun e => HNE.out e.symm))
                        have HA9 : Hid (Arr (w7.setCell ⟨w.heap.size, q * 4 + r, none⟩ (.int .i64 n)) (NatR (w7.setCell ⟨w.heap.size, q * 4 + r, none⟩ (.int .i64 n))) (ctorsL xs (tyAt s)) (.slice (some ⟨b7, off7, none⟩) (ctorsL xs (tyAt s)).length cap3) F3 ∧ Under (w7.setCell ⟨w.heap.size, q * 4 + r, none⟩ (.int .i64 n)).heap.size F3) := ⟨ArrNat.kept HA7.out.1 (Kept.set (Kept.refl _ _) HN3.out), HA7.out.2.mono (by simp [World.setCell])⟩
                        have hB9 : Below w.heap.size w (w7.setCell ⟨w.heap.size, q * 4 + r, none⟩ (.int .i64 n)) := hB7.setCell (Nat.le_refl _) _
                        have HC9 : Hid (movedB (sweeps xs m) (St xs m s (i + 1)) = true) := by rw [HST.out]; exact HMV.out
                        clear hb1 hsp
                        go_wp2
                        go_roundw
                        case rel => exact ⟨i + 1, true, by omega, by go_num, rfl, HC9, HS9, KX9, HA9, hB9⟩
                        case measure => (simp [intOf] <;> omega)
                      · have hb1 : better (St xs m s i) s n = false := by rw [hbet, decide_eq_false h1, decide_eq_false h2]; simp
                        clear hbet h1
                        have HS9 : Hid (Tab w7 w.heap.size (St xs m s (i + 1))) := by
                          have h := HS7.out
                          rw [← movedB_not hb1, ← HST.out] at h
                          exact h
                        have HC9 : Hid (movedB (sweeps xs m) (St xs m s (i + 1)) = c) := by
                          have h := HC.out
                          rw [← movedB_not hb1, ← HST.out] at h
                          exact h
                        clear hb1
                        go_wp2
                        go_roundw
                        case rel => exact ⟨i + 1, c, by omega, by go_num, rfl, HC9, HS9, KX7, HA7, hB7⟩
                        case measure => (simp [intOf] <;> omega)
                  · have t0 : decide (n > 0) = false := by simp; omega
                    have hb1 : better (St xs m s i) s n = false := by rw [hbet, decide_eq_false h0]; rfl
                    clear hbet
                    have HS9 : Hid (Tab w5 w.heap.size (St xs m s (i + 1))) := by
                      have h := HS5.out
                      rw [← movedB_not hb1, ← HST.out] at h
                      exact h
                    have HC9 : Hid (movedB (sweeps xs m) (St xs m s (i + 1)) = c) := by
                      have h := HC.out
                      rw [← movedB_not hb1, ← HST.out] at h
                      exact h
                    clear hb1
                    go_wp2
                    go_roundw
                    case rel => exact ⟨i + 1, c, by omega, by go_num, rfl, HC9, HS9, KX5, HA5, hB5⟩
                    case measure => (simp [intOf] <;> omega)
                · have HT2 : Hid (Tab wr w.heap.size (sweepTo xs (sweeps xs m) (q * 4 + (r + 1)))) := by
                    have h := HS.out
                    rw [St_all (by omega), ← HSE.out] at h
                    exact h
                  have HC2 : Hid (movedB (sweeps xs m) (sweepTo xs (sweeps xs m) (q * 4 + (r + 1))) = c) := by
                    have h := HC.out
                    rw [St_all (by omega), ← HSE.out] at h
                    exact h
                  go_wp2
                  go_roundw
                  case rel => exact ⟨r + 1, c, by omega, by go_num, rfl, HC2, HT2, hB⟩
                  case measure => (simp [intOf] <;> omega)
            · have t9 : decide ((r : Int) ≤ 3) = false := by simp; omega
              have HT2 : Hid (Tab wr w.heap.size (sweepTo xs (sweeps xs m) ((q + 1) * 4))) := by
                have h := HT.out
                rw [show q * 4 + r = (q + 1) * 4 by omega] at h
                exact h
              have HC2 : Hid (movedB (sweeps xs m) (sweepTo xs (sweeps xs m) ((q + 1) * 4)) = c) := by
                have h := HCV.out
                rw [show q * 4 + r = (q + 1) * 4 by omega] at h
                exact h
              go_wp2
              go_roundw
              case rel => exact ⟨q + 1, by omega, by go_num, (by rw [HC2.out]), HT2, hB⟩
              case measure => (simp [intOf] <;> omega)
        · have HT2 : Hid (Tab wr w.heap.size (sweeps xs (m + 1))) := by
            have h := HT.out
            rw [show q * 4 = xs.length * 4 by omega] at h
            exact h
          generalize hcv : movedB (sweeps xs m) (sweepTo xs (sweeps xs m) (q * 4)) = cb
          have hfix : cb = false → sweep xs (sweeps xs (m + 1)) = sweeps xs (m + 1) := fun h => by
            rw [h, movedB_iff, show q * 4 = xs.length * 4 by omega] at hcv
            have e : sweeps xs (m + 1) = sweeps xs m := hcv
            rw [e]; exact hcv
          have hmv : cb = true → m + 1 ≤ xs.length * 4 + 1 := fun h => by
            have := moved_le HW.out (m := m) (fun e => by
              have e2 : movedB (sweeps xs m) (sweepTo xs (sweeps xs m) (q * 4)) = false := movedB_iff.2 (by rw [show q * 4 = xs.length * 4 by omega]; exact e)
              rw [hcv, h] at e2
              cases e2)
            omega
          have HFIX := Lib.hid hfix
          have HMV := Lib.hid hmv
          clear hfix hmv hcv
          go_wp2
          go_roundg (gk - 1)
          case rel => exact ⟨m + 1, cb, by omega, rfl, HFIX, HMV.out, HT2, hB⟩
          case measure => omega
end Go.Proofs.Ytilndhmegaccmaa

namespace Go.Proofs.Ytilndhmegaccmaa
open Go.RowKit

theorem depthL_no {xs : List Dt} {t : Ty} (h : typeValidB xs t = false) : depthL xs t = 0 := if_neg (by simp [h])
theorem depthL_yes {xs : List Dt} {t : Ty} (h : typeValidB xs t = true) : depthL xs t = depthIn (tableL xs) t := if_pos h
def posB (n : Int) : Bool := decide (0 < n)
theorem tableL_small {xs : List Dt} (hw : WorldOK xs) : Small xs.length (tableL xs) := table_small hw (by have := hw.len; omega)
theorem ret_pair {k : IntKind} {a b : Int} {c d : Bool} (h : a = b) (h2 : c = d) : Ending.returned (.tuple #[.int k a, .bool c]) = .returned (.tuple #[.int k b, .bool d]) := by rw [h, h2]
set_option maxRecDepth 100000 in
set_option maxHeartbeats 1600000 in
theorem spec_LeastDepth (xs : List Dt) (t : Ty) (w : World) (v : Value) (F : List Nat) (hx : Arr w (DtR w) xs v F) (hf : Under w.heap.size F) :
    Calls Try.prog 82 #[v, .agg #[.int .i64 t.d, .int .i64 t.i]] w fun e w' => e = .returned (.tuple #[.int .i64 (depthL xs t), .bool (posB (depthL xs t))]) ∧ Below w.heap.size w w' := by
  obtain ⟨A, cap, rfl, hc1, hc2⟩ := hx.form
  have HX := Lib.hid hx
  have HF := Lib.hid hf
  clear hx hf
  go_enter Try.func82, Try.ntmps82
  go_wp2_with fail
  obtain ⟨W2, hW2⟩ : ∃ W2, W2 = w.alloc (.cells #[.int .i64 t.d, .int .i64 t.i] 32) := ⟨_, rfl⟩
  have hB2 : Below w.heap.size w W2 := by rw [hW2]; exact (Below.refl _ _).alloc (Nat.le_refl _) _
  have k1 : Blk W2 w.heap.size 32 #[.int .i64 t.d, .int .i64 t.i] := by rw [hW2]; exact Blk.new _ _ _
  rw [← hW2]
  clear hW2
  refine (spec_TypeValid xs t W2 _ F (ArrDt.below HX.out hB2 HF.out) (HF.out.mono hB2.size)).mono ?_
  rintro e w3 ⟨rfl, hb3⟩
  have hB3 := hB2.trans (hb3.mono hB2.size)
  have k2 := k1.same (hb3.block _ k1.lt)
  have x0 : w3.cell? ⟨w.heap.size, 0, none⟩ = some (.int .i64 t.d) := (k2.cell 0).trans (by simp)
  have x1 : w3.cell? ⟨w.heap.size, 1, none⟩ = some (.int .i64 t.i) := (k2.cell 1).trans (by simp)
  have hlt := k2.lt
  clear k1 k2 hb3
  cases h1 : typeValidB xs t with
  | false =>
    have hf := Lib.hid (depthL_no h1)
    clear h1
    go_wp2
    go_ret2
    exact ⟨ret_pair hf.out.symm (by rw [hf.out]; rfl), hB3⟩
  | true =>
    have hf := Lib.hid (depthL_yes h1)
    obtain ⟨hw, hto⟩ := typeValid_split h1
    have HW := Lib.hid hw
    have HT := Lib.hid (typeOkB_tyIn hto)
    clear h1 hw hto
    go_wp2_with fail
    have hkeep : ∀ U U' : World, (U.cell? ⟨w.heap.size, 0, none⟩ = some (.int .i64 t.d) ∧ U.cell? ⟨w.heap.size, 1, none⟩ = some (.int .i64 t.i)) → Below U.heap.size U U' → w3.heap.size ≤ U.heap.size → (U'.cell? ⟨w.heap.size, 0, none⟩ = some (.int .i64 t.d) ∧ U'.cell? ⟨w.heap.size, 1, none⟩ = some (.int .i64 t.i)) := fun U U' h hUU hU => ⟨(hUU.cell (Nat.lt_of_lt_of_le (hlt) hU)).trans h.1, (hUU.cell (Nat.lt_of_lt_of_le (hlt) hU)).trans h.2⟩
    have HKeep := Lib.hid hkeep
    clear hkeep
    go_region_held3 (fun w' => w'.cell? ⟨w.heap.size, 0, none⟩ = some (.int .i64 t.d) ∧ w'.cell? ⟨w.heap.size, 1, none⟩ = some (.int .i64 t.i)) (first | assumption | (exact ⟨x0, x1⟩) | (exact HKeep.out w3.drew w4 ⟨x0, x1⟩ hb4 (Nat.le_refl _)) | (exact HKeep.out w4 w5 (by assumption) hb5 hlew4)) (first | (go_at_call 84; ((with_reducible refine (spec_l1Table xs HW.out _ _ F (ArrDt.below HX.out hB3.drew HF.out) (HF.out.mono hB3.drew.size)).mono ?_); rintro e w4 ⟨v4, F4, rfl, hb4, ha4, -, hfs4⟩); have hlew4 : w3.heap.size ≤ w4.heap.size := hb4.size) | (go_at_call 125; ((with_reducible refine (spec_l1Depth xs.length HW.out.len (tableL xs) (tableL_small HW.out) t HT.out _ _ F4 ha4 hfs4.under).mono ?_); rintro e w5 ⟨rfl, hb5⟩)))
    have hB5 := (hB3.drew.trans (hb4.mono hB3.drew.size)).trans (hb5.mono (hB3.drew.trans (hb4.mono hB3.drew.size)).size)
    generalize hdd : depthIn (tableL xs) t = n at *
    have HDD := Lib.hid hdd
    clear hdd
    go_wp2
    go_ret2
    exact ⟨ret_pair hf.out.symm (by rw [hf.out]; rfl), hB5⟩


set_option maxRecDepth 100000 in
set_option maxHeartbeats 1600000 in
theorem impl_LeastDepth (xs : List Dt) (t : Ty) (w : World) (v : Value) (F : List Nat) (hx : Arr w (DtR w) xs v F) (hf : Under w.heap.size F) :
    Calls Try.prog 32 #[v, .agg #[.int .i64 t.d, .int .i64 t.i]] w fun e w' => e = .returned (.tuple #[.int .i64 (depthL xs t), .bool (posB (depthL xs t))]) ∧ Below w.heap.size w w' := by
  obtain ⟨A, cap, rfl, hc1, hc2⟩ := hx.form
  have HX := Lib.hid hx
  have HF := Lib.hid hf
  clear hx hf
  go_enter Try.func32, Try.ntmps32
  go_wp2_with fail
  obtain ⟨W2, hW2⟩ : ∃ W2, W2 = w.alloc (.cells #[.int .i64 t.d, .int .i64 t.i] 32) := ⟨_, rfl⟩
  have hB2 : Below w.heap.size w W2 := by rw [hW2]; exact (Below.refl _ _).alloc (Nat.le_refl _) _
  have k1 : Blk W2 w.heap.size 32 #[.int .i64 t.d, .int .i64 t.i] := by rw [hW2]; exact Blk.new _ _ _
  rw [← hW2]
  clear hW2
  refine (impl_TypeValid xs t W2 _ F (ArrDt.below HX.out hB2 HF.out) (HF.out.mono hB2.size)).mono ?_
  rintro e w3 ⟨rfl, hb3⟩
  have hB3 := hB2.trans (hb3.mono hB2.size)
  have k2 := k1.same (hb3.block _ k1.lt)
  have x0 : w3.cell? ⟨w.heap.size, 0, none⟩ = some (.int .i64 t.d) := (k2.cell 0).trans (by simp)
  have x1 : w3.cell? ⟨w.heap.size, 1, none⟩ = some (.int .i64 t.i) := (k2.cell 1).trans (by simp)
  have hlt := k2.lt
  clear k1 k2 hb3
  cases h1 : typeValidB xs t with
  | false =>
    have hf := Lib.hid (depthL_no h1)
    clear h1
    go_wp2
    go_ret2
    exact ⟨ret_pair hf.out.symm (by rw [hf.out]; rfl), hB3⟩
  | true =>
    have hf := Lib.hid (depthL_yes h1)
    obtain ⟨hw, hto⟩ := typeValid_split h1
    have HW := Lib.hid hw
    have HT := Lib.hid (typeOkB_tyIn hto)
    clear h1 hw hto
    go_wp2_with fail
    have hkeep : ∀ U U' : World, (U.cell? ⟨w.heap.size, 0, none⟩ = some (.int .i64 t.d) ∧ U.cell? ⟨w.heap.size, 1, none⟩ = some (.int .i64 t.i)) → Below U.heap.size U U' → w3.heap.size ≤ U.heap.size → (U'.cell? ⟨w.heap.size, 0, none⟩ = some (.int .i64 t.d) ∧ U'.cell? ⟨w.heap.size, 1, none⟩ = some (.int .i64 t.i)) := fun U U' h hUU hU => ⟨(hUU.cell (Nat.lt_of_lt_of_le (hlt) hU)).trans h.1, (hUU.cell (Nat.lt_of_lt_of_le (hlt) hU)).trans h.2⟩
    have HKeep := Lib.hid hkeep
    clear hkeep
    go_region_held3 (fun w' => w'.cell? ⟨w.heap.size, 0, none⟩ = some (.int .i64 t.d) ∧ w'.cell? ⟨w.heap.size, 1, none⟩ = some (.int .i64 t.i)) (first | assumption | (exact ⟨x0, x1⟩) | (exact HKeep.out w3.drew w4 ⟨x0, x1⟩ hb4 (Nat.le_refl _)) | (exact HKeep.out w4 w5 (by assumption) hb5 hlew4)) (first | (go_at_call 79; ((with_reducible refine (impl_depthsOf xs HW.out _ _ F (ArrDt.below HX.out hB3.drew HF.out) (HF.out.mono hB3.drew.size)).mono ?_); rintro e w4 ⟨g4, rfl, hge4, ha4, hb4⟩); have hlew4 : w3.heap.size ≤ w4.heap.size := hb4.size) | (go_at_call 80; ((with_reducible refine (impl_of xs.length HW.out.len (tableL xs) (tableL_small HW.out) t HT.out _ g4 ha4).mono ?_); rintro e w5 ⟨rfl, hb5⟩)))
    have hB5 := (hB3.drew.trans (hb4.mono hB3.drew.size)).trans (hb5.mono (hB3.drew.trans (hb4.mono hB3.drew.size)).size)
    generalize hdd : depthIn (tableL xs) t = n at *
    have HDD := Lib.hid hdd
    clear hdd
    go_wp2
    go_ret2
    exact ⟨ret_pair hf.out.symm (by rw [hf.out]; rfl), hB5⟩

end Go.Proofs.Ytilndhmegaccmaa

namespace Go.Proofs.Ytilndhmegaccmaa
open Go.RowKit

theorem same_refl2 (v : V) : V.same v v = true := (V.same_iff v v).2 rfl
theorem upto_depth {xs : List Dt} {t : Ty} {dp : Int} (h : uptoB xs t dp = true) {v : V} (hv : v ∈ uptoV xs t dp) : (v.depth : Int) ≤ dp ∧ valueValidB xs t v = true := by
  have hs := h
  obtain ⟨hw, ht, ⟨n, rfl, hn⟩, -⟩ := upto_split h
  rw [uptoV_yes hs, Int.toNat_natCast] at hv
  have h1 := (vals_small hw hn ht hv).2
  have h2 := vals_ok hw hn ht hv
  refine ⟨by omega, ?_⟩
  unfold uptoB at hs
  simp only [Bool.and_eq_true] at hs
  unfold valueValidB
  rw [hs.1, h2]
  rfl
theorem upto_asc {xs : List Dt} {t : Ty} {dp : Int} (h : uptoB xs t dp = true) (i : Nat) (hi : i + 1 < (uptoV xs t dp).length) : V.cmp (uptoV xs t dp)[i] (uptoV xs t dp)[i + 1] = -1 := by
  have hs := h
  obtain ⟨hw, ht, -, -⟩ := upto_split h
  have e := uptoV_yes hs
  simp only [e] at hi ⊢
  exact vals_step hw ht i hi
theorem upto_asc2 {xs : List Dt} {t : Ty} {dp : Int} {ls : List V} (h : uptoB xs t dp = true) (e : uptoV xs t dp = ls) (i : Nat) (hi : i + 1 < ls.length) : V.cmp ls[i] ls[i + 1] = -1 := by
  subst e
  exact upto_asc h i hi
theorem upto_less {xs : List Dt} {t : Ty} {dp : Int} (h : uptoB xs t dp = true) (h0 : ¬ dp = 0) : uptoB xs t (dp - 1) = true ∧ (uptoV xs t (dp - 1)).Sublist (uptoV xs t dp) := by
  have hs := h
  obtain ⟨hw, ht, ⟨n, rfl, hn⟩, hl⟩ := upto_split h
  obtain ⟨m, rfl⟩ : ∃ m, n = m + 1 := ⟨n - 1, by omega⟩
  have e : ((m + 1 : Nat) : Int) - 1 = (m : Int) := by omega
  rw [e]
  rw [Int.toNat_natCast] at hl
  have hsub := vals_sub xs m t
  have hl2 := hsub.length_le
  have hb : uptoB xs t (m : Int) = true := by
    unfold uptoB at hs ⊢
    simp only [Bool.and_eq_true, decide_eq_true_iff, withinB_iff, Int.toNat_natCast] at hs ⊢
    exact ⟨hs.1, ⟨by omega, by omega⟩, by omega⟩
  refine ⟨hb, ?_⟩
  rw [uptoV_yes hb, uptoV_yes hs, Int.toNat_natCast, Int.toNat_natCast]
  exact hsub
theorem fits_hasD {xs : List Dt} : ∀ (d : Nat) (t : Ty) (v : V), fitsV xs d t v = true → hasD xs d t
  | 0, t, v, h => by rw [fitsV] at h; cases h
  | d + 1, t, v, h => by
    by_cases ht : t.d = -1
    · exact .inl ht
    · rw [fitsV_data ht] at h
      simp only [Bool.and_eq_true, decide_eq_true_iff, hasB_iff] at h
      obtain ⟨h1, h2, h3, h4⟩ := h
      refine .inr ⟨v.c, h2, fun a ha => ?_⟩
      obtain ⟨i, hi, rfl⟩ := List.getElem_of_mem ha
      exact fits_hasD d _ _ (zip_at h4 hi (by omega))
where
  zip_at {f : Ty → V → Bool} : ∀ {ls : List Ty} {ks : List V} {i : Nat}, zipAll f ls ks = true → ∀ (h1 : i < ls.length) (h2 : i < ks.length), f ls[i] ks[i] = true
  | [], _, i, _, h1, _ => absurd h1 (by simp)
  | _ :: _, [], i, _, _, h2 => absurd h2 (by simp)
  | a :: ls, k :: ks, 0, h, _, _ => by rw [zipAll, Bool.and_eq_true] at h; exact h.1
  | a :: ls, k :: ks, i + 1, h, h1, h2 => by
    rw [zipAll, Bool.and_eq_true] at h
    exact zip_at h.2 (by simpa using h1) (by simpa using h2)
theorem hasD_vals {xs : List Dt} : ∀ (d : Nat) (t : Ty), hasD xs d t → valsL xs d t ≠ []
  | 0, t, h => h.elim
  | d + 1, t, h => by
    by_cases ht : t.d = -1
    · rw [valsL_int ht]; exact List.ne_nil_of_length_pos (by rw [numsL_len]; omega)
    · rcases h with h | ⟨k, hk, ha⟩
      · exact absurd h ht
      · rw [valsL, if_neg ht]
        intro e
        have h1 := List.flatMap_eq_nil_iff.1 e k hk
        have hn : noneB xs d (argsOf xs t k) = false := by
          unfold noneB
          rw [List.any_eq_false]
          intro a haa hz
          rw [beq_iff_eq] at hz
          exact hasD_vals d a (ha a haa) (List.length_eq_zero_iff.1 hz)
        have h2 := argTo_pos (xs := xs) (d := d) (c := k) hn (argsOf xs t k).length (Nat.le_refl _)
        rw [argTo_all xs d t k (Nat.le_refl _)] at h2
        unfold blockL at h2
        rw [h1] at h2
        simp at h2
theorem upto_least {xs : List Dt} {t : Ty} {dp : Int} (h : uptoB xs t dp = true) : decide (((uptoV xs t dp).length : Int) > 0) = (posB (depthL xs t) && decide (depthL xs t ≤ dp)) := by
  have hs := h
  obtain ⟨hw, ht, ⟨n, rfl, hn⟩, -⟩ := upto_split h
  have hv : typeValidB xs t = true := by unfold uptoB at hs; simp only [Bool.and_eq_true] at hs; exact hs.1
  rw [uptoV_yes hs, Int.toNat_natCast, depthL_yes hv, Bool.eq_iff_iff, Bool.and_eq_true, decide_eq_true_iff, decide_eq_true_iff]
  unfold posB
  rw [decide_eq_true_iff]
  have hsm := (tableL_small hw).dep t
  constructor
  · intro h1
    have hne : valsL xs n t ≠ [] := fun e => by rw [e] at h1; simp at h1
    obtain ⟨v, hvm⟩ := List.exists_mem_of_ne_nil _ hne
    have h2 := depthIn_done hw ht (fits_hasD n t v ((mem_vals xs n t v).1 hvm))
    omega
  · rintro ⟨h1, h2⟩
    have h3 := (sound_tableL hw).dhas ht (by omega)
    have h4 := hasD_vals n t (hasD_le h3 (by omega))
    have h5 := List.length_pos_iff.2 h4
    omega
end Go.Proofs.Ytilndhmegaccmaa

namespace Go.Proofs.Ytilndhmegaccmaa
open Go.RowKit

theorem V.sames_iff (ks ks' : List V) : V.sames ks ks' = true ↔ ks = ks' := V.sames_iff_of ks (fun k _ => V.same_iff k) ks'
theorem V.sames_false {ks ks' : List V} (h : ks ≠ ks') : V.sames ks ks' = false := by
  rw [Bool.eq_false_iff]
  exact fun e => h ((V.sames_iff ks ks').1 e)

def SameImplV (a : V) : Prop := ∀ (b : V) (w : World) (cs ds : List Value) (F G : List Nat), VR w a cs F → VR w b ds G → Under w.heap.size F → Under w.heap.size G →
  Calls Try.prog 28 #[.agg cs.toArray, .agg ds.toArray] w fun e w' => e = .returned (.bool (V.same a b)) ∧ Below w.heap.size w w'

set_option maxRecDepth 100000 in
set_option maxHeartbeats 1600000 in
theorem EqualFunc_ofV (ks : List V) (ih : ∀ k ∈ ks, SameImplV k) (ks' : List V) (w : World) (x y : Value) (F G : List Nat) (hx : Arr w (VR w) ks x F) (hy : Arr w (VR w) ks' y G) (hF : Under w.heap.size F) (hG : Under w.heap.size G) :
    Calls Try.prog 74 #[x, y, .func (.func 28) #[] #[]] w fun e w' => e = .returned (.bool (V.sames ks ks')) ∧ Below w.heap.size w w' := by
  have HX := Lib.hid hx
  have HY := Lib.hid hy
  obtain ⟨A, cap, rfl, hc1, hc2⟩ := hx.form
  obtain ⟨A', cap', rfl, hc3, hc4⟩ := hy.form
  clear hx hy
  have IH := Lib.hid ih
  clear ih
  have HF := Lib.hid hF
  have HG := Lib.hid hG
  clear hF hG
  by_cases hl : ks.length = ks'.length
  · have tl : ((ks.length : Int) != (ks'.length : Int)) = false := by rw [hl]; simp
    have HL := Lib.hid hl
    have hle1 : ks.length ≤ ks'.length := by omega
    have hle2 : ks'.length ≤ ks.length := by omega
    clear hl
    go_enter Try.func74, Try.ntmps74
    go_wp2
    go_loopw [17] (fun i wr => ∃ k : Nat, k ≤ ks.length ∧ i = .int .i64 k ∧ Hid (ks.take k = ks'.take k) ∧ Below w.heap.size w wr) (fun i _ => ks.length - (intOf i).toNat)
    case atStart => exact ⟨0, Nat.zero_le _, rfl, rfl, Below.refl _ _⟩
    case round =>
      obtain ⟨k, hk, rfl, HT, hB⟩ := hrel
      by_cases hlt : k < ks.length
      · have hlt' : k < ks'.length := by omega
        obtain ⟨b, off, cs, F1, rfl, hb, hcs, hv, hF1⟩ := HX.out.get VR_len hlt
        obtain ⟨b', off', ds, G1, rfl, hb', hds, hv', hG1⟩ := HY.out.get VR_len hlt'
        have hv1 := hv.below hB (HF.out.sub hF1)
        have hv2 := hv'.below hB (HG.out.sub hG1)
        have hbl := Nat.lt_of_lt_of_le (HF.out b hb) hB.size
        have hbl' := Nat.lt_of_lt_of_le (HG.out b' hb') hB.size
        have hcs1 := hcs.same (hB.block b (HF.out b hb))
        have hds1 := hds.same (hB.block b' (HG.out b' hb'))
        obtain ⟨kv, rfl, hka⟩ := (VR_iff _ _ _).1 hv
        obtain ⟨kv', rfl, hka'⟩ := (VR_iff _ _ _).1 hv'
        obtain ⟨A1, cap1, rfl, -, -⟩ := hka.form
        obtain ⟨A2, cap2, rfl, -, -⟩ := hka'.form
        have c0 := hcs1 0 _ rfl
        have c1 := hcs1 1 _ rfl
        have c2 := hcs1 2 _ rfl
        have d0 := hds1 0 _ rfl
        have d1 := hds1 1 _ rfl
        have d2 := hds1 2 _ rfl
        simp only [Nat.add_zero] at c0 d0
        clear hcs hcs1 hv hds hds1 hv' hka hka'
        have HV := Lib.hid hv1
        have HV2 := Lib.hid hv2
        have HF1 := Lib.hid (HF.out.sub hF1)
        have HG1 := Lib.hid (HG.out.sub hG1)
        clear hv1 hv2 hF1 hG1
        go_wp2_with fail
        obtain ⟨W2, hW2⟩ : ∃ W2, W2 = (wr.alloc (.cells #[.int .i64 ks[k].c, .int .i64 ks[k].n, .slice A1 ks[k].ks.length cap1] 53)).alloc (.cells #[.int .i64 ks'[k].c, .int .i64 ks'[k].n, .slice A2 ks'[k].ks.length cap2] 53) := ⟨_, rfl⟩
        have hb2 : Below wr.heap.size wr W2 := by rw [hW2]; exact ((Below.refl _ _).alloc (Nat.le_refl _) _).alloc (by simp) _
        rw [← hW2]
        clear hW2
        have hB2 := hB.trans (hb2.mono hB.size)
        refine (IH.out _ (List.getElem_mem hlt) ks'[k] W2 _ _ F1 G1 (HV.out.below hb2 (HF1.out.mono hB.size)) (HV2.out.below hb2 (HG1.out.mono hB.size)) (HF1.out.mono hB2.size) (HG1.out.mono hB2.size)).mono ?_
        rintro e w' ⟨rfl, hB'⟩
        have hB3 := hB2.trans (hB'.mono hB2.size)
        by_cases he : ks[k] = ks'[k]
        · rw [(V.same_iff _ _).2 he]
          have hT2 : Hid (ks.take (k + 1) = ks'.take (k + 1)) := by rw [take_snoc' ks k hlt, take_snoc' ks' k hlt', HT.out, he]; rfl
          clear he
          go_wp2
          go_roundw
          case rel => exact ⟨k + 1, by omega, by go_num, hT2, hB3⟩
          case measure => simp [intOf]; omega
        · rw [V.same_false he]
          have hf := Lib.hid (V.sames_false (ks := ks) (ks' := ks') (fun h => he (by simp only [h])))
          clear he
          go_wp2
          go_ret
          exact ⟨ret_bool hf.out.symm, hB3⟩
      · have hT := HT.out
        rw [List.take_of_length_le (by omega), List.take_of_length_le (by omega)] at hT
        have hf := Lib.hid ((V.sames_iff ks ks').2 hT)
        clear hT
        go_wp2
        go_ret
        exact ⟨ret_bool hf.out.symm, hB⟩
  · have tl : ((ks.length : Int) != (ks'.length : Int)) = true := by rw [bne_iff_ne]; omega
    have hf := Lib.hid (V.sames_false (ks := ks) (ks' := ks') (fun h => hl (by rw [h])))
    clear hl
    go_enter Try.func74, Try.ntmps74
    go_wp2
    go_ret
    exact ⟨ret_bool hf.out.symm, Below.refl _ _⟩

set_option maxRecDepth 100000 in
set_option maxHeartbeats 1600000 in
theorem impl_ValueSame_all : ∀ a, SameImplV a := V.ind fun c n ks ih b w cs ds F G hv hv' hF hG => by
  obtain ⟨c', n', ks'⟩ := b
  obtain ⟨kv, rfl, hk⟩ := (VR_iff _ _ _).1 hv
  obtain ⟨kv', rfl, hk'⟩ := (VR_iff _ _ _).1 hv'
  have IH := Lib.hid ih
  clear ih hv hv'
  have HK := Lib.hid hk
  have HK' := Lib.hid hk'
  obtain ⟨A, cap, rfl, hc1, hc2⟩ := hk.form
  obtain ⟨A', cap', rfl, hc3, hc4⟩ := hk'.form
  clear hk hk'
  have HF := Lib.hid hF
  have HG := Lib.hid hG
  clear hF hG
  by_cases e0 : c = c'
  · subst e0
    have t0 : (c != c) = false := by simp
    have s0 : (c == c) = true := by simp
    by_cases e1 : n = n'
    · subst e1
      have t1 : (n != n) = false := by simp
      have s1 : (n == n) = true := by simp
      go_enter Try.func28, Try.ntmps28
      go_wp2_with fail
      obtain ⟨W2, hW2⟩ : ∃ W2, W2 = (w.alloc (.cells #[.int .i64 c, .int .i64 n, .slice A ks.length cap] 53)).alloc (.cells #[.int .i64 c, .int .i64 n, .slice A' ks'.length cap'] 53) := ⟨_, rfl⟩
      have hB2 : Below w.heap.size w W2 := by rw [hW2]; exact ((Below.refl _ _).alloc (Nat.le_refl _) _).alloc (by simp) _
      rw [← hW2]
      clear hW2
      refine (EqualFunc_ofV ks IH.out ks' W2 _ _ F G (ArrV.below HK.out hB2 HF.out) (ArrV.below HK'.out hB2 HG.out) (HF.out.mono hB2.size) (HG.out.mono hB2.size)).mono ?_
      rintro e w' ⟨rfl, hB'⟩
      have hB3 := hB2.trans (hB'.mono hB2.size)
      have hf : Hid (V.sames ks ks' = V.same ⟨c, n, ks⟩ ⟨c, n, ks'⟩) := by simp [Hid, V.same]
      generalize V.sames ks ks' = bb at *
      go_wp2
      go_ret
      exact ⟨ret_bool hf.out, hB3⟩
    · have t1 : (n != n') = true := by simpa using e1
      have s1 : (n == n') = false := by simpa using e1
      have hf := Lib.hid (V.same_false (a := ⟨c, n, ks⟩) (b := ⟨c, n', ks'⟩) (fun h => e1 (by injection h)))
      clear e1
      go_enter Try.func28, Try.ntmps28
      go_wp2
      go_ret
      exact ⟨ret_bool hf.out.symm, ((Below.refl _ _).alloc (Nat.le_refl _) _).alloc (by simp) _⟩
  · have t0 : (c != c') = true := by simpa using e0
    have s0 : (c == c') = false := by simpa using e0
    have hf := Lib.hid (V.same_false (a := ⟨c, n, ks⟩) (b := ⟨c', n', ks'⟩) (fun h => e0 (by injection h)))
    clear e0
    go_enter Try.func28, Try.ntmps28
    go_wp2
    go_ret
    exact ⟨ret_bool hf.out.symm, ((Below.refl _ _).alloc (Nat.le_refl _) _).alloc (by simp) _⟩

theorem impl_ValueSame (a b : V) (w : World) (cs ds : List Value) (F G : List Nat) (hx : VR w a cs F) (hy : VR w b ds G) (hF : Under w.heap.size F) (hG : Under w.heap.size G) :
    Calls Try.prog 28 #[.agg cs.toArray, .agg ds.toArray] w fun e w' => e = .returned (.bool (V.same a b)) ∧ Below w.heap.size w w' := impl_ValueSame_all a b w cs ds F G hx hy hF hG
end Go.Proofs.Ytilndhmegaccmaa

namespace Go.Proofs.Ytilndhmegaccmaa
open Go.RowKit

theorem min_mul (a b : Nat) : (if (401 : Int) < (a : Int) * (b : Int) then (401 : Int) else (a : Int) * (b : Int)) = ((min (a * b) 401 : Nat) : Int) := by
  rw [← Int.natCast_mul]
  split <;> omega
theorem min_add (a b : Nat) : (if (401 : Int) < (a : Int) + (b : Int) then (401 : Int) else (a : Int) + (b : Int)) = ((min (a + b) 401 : Nat) : Int) := by split <;> omega
set_option maxRecDepth 100000 in
set_option maxHeartbeats 6400000 in
theorem impl_countValues : ∀ (d : Nat), ∀ (xs : List Dt) (_ : WorldOK xs) (t : Ty) (_ : TyIn xs.length t) (_ : d ≤ 10) (w : World) (x : Value) (F : List Nat), Arr w (DtR w) xs x F → Under w.heap.size F →
    Calls Try.prog 65 #[x, .agg #[.int .i64 t.d, .int .i64 t.i], .int .i64 ((d : Nat) : Int)] w fun e w' => e = .returned (.int .i64 (cntU xs d t : Nat)) ∧ Below w.heap.size w w' := by
  intro d
  induction d with
  | zero =>
    intro xs hw t ht hd w x F hx hf
    clear hw ht hd hx hf
    go_enter Try.func65, Try.ntmps65
    go_wp2
    go_ret
    exact ⟨rfl, (Below.refl _ _).alloc (Nat.le_refl _) _⟩
  | succ d ih =>
    intro xs hw t ht hd w x F hx hf
    have IH := Lib.hid ih
    obtain ⟨A, cap, rfl, hc1, hc2⟩ := hx.form
    have hde : ((d + 1 : Nat) : Int) = (d : Int) + 1 := by omega
    have e0 : (((d : Int) + 1) == 0) = false := by rw [beq_eq_false_iff_ne]; omega
    rw [hde]
    clear ih hde
    rcases id ht with hti | ⟨q, r, rfl, hql, hrl⟩
    · have t0 : (t.d == -1) = true := by simp [hti]
      have HP := Lib.hid (cntU_int (xs := xs) (d := d) hti)
      clear hw ht hti hx hf hd
      go_enter Try.func65, Try.ntmps65
      go_wp2
      go_ret
      exact ⟨by rw [HP.out]; rfl, (Below.refl _ _).alloc (Nat.le_refl _) _⟩
    · have t0 : ((q : Int) == -1) = false := by rw [beq_eq_false_iff_ne]; omega
      have hdn : ¬ (⟨(q : Int), (r : Int)⟩ : Ty).d = -1 := by simp only; omega
      have hw1 : IntKind.i64.wrap ((d : Int) + 1 - 1) = (d : Int) := by rw [show (d : Int) + 1 - 1 = d by omega]; exact IntWalk.i64_in _ (by omega)
      have HDN := Lib.hid hdn
      have HW := Lib.hid hw
      have HT := Lib.hid ht

      have HX := Lib.hid hx
      have HF := Lib.hid hf
      clear hx hf
      clear hw ht hdn
      go_enter Try.func65, Try.ntmps65
      go_wp2_with fail
      obtain ⟨W2, hW2⟩ : ∃ W2, W2 = (w.alloc (.cells #[.int .i64 (q : Int), .int .i64 (r : Int)] 32)) := ⟨_, rfl⟩
      have hB0 : Below w.heap.size w W2 := by rw [hW2]; exact (Below.refl _ _).alloc (Nat.le_refl _) _
      have KT : Hid (Blk W2 w.heap.size 32 #[.int .i64 (q : Int), .int .i64 (r : Int)]) := by rw [hW2]; exact Blk.new w _ _
      rw [← hW2]
      clear hW2
      have y0 : W2.cell? ⟨w.heap.size, 0, none⟩ = some (.int .i64 (q : Int)) := (KT.out.cell 0).trans (by simp)
      have y1 : W2.cell? ⟨w.heap.size, 1, none⟩ = some (.int .i64 (r : Int)) := (KT.out.cell 1).trans (by simp)
      have ylt := KT.out.lt
      go_wp2_with fail
      refine (impl_ctorsOf xs (⟨(q : Int), (r : Int)⟩ : Ty) W2 _ F (ArrDt.below HX.out hB0 HF.out) (HF.out.mono hB0.size) HW.out HT.out.inWorld).mono ?_
      rintro e w3 ⟨v3, F3, rfl, hb3, ha3, -, hfs3⟩
      have hB3 := hB0.trans (hb3.mono hB0.size)
      have KT3 := Lib.hid (KT.out.same (hb3.block _ KT.out.lt))
      have HA3 := Lib.hid ha3
      have HU3 := Lib.hid hfs3.under
      obtain ⟨C3, cap3, rfl, hl1, hl2⟩ := ha3.form
      clear ha3 hfs3 hb3 KT y0 y1 ylt hB0
      go_wp2
      go_loopw [7, 22] (fun sv iv wr => ∃ i : Nat, i ≤ (ctorsL xs (⟨(q : Int), (r : Int)⟩ : Ty)).length ∧ iv = .int .i64 i ∧ sv = .int .i64 (cntTo xs d (⟨(q : Int), (r : Int)⟩ : Ty) i : Nat) ∧ Hid (Below w3.heap.size w3 wr)) (fun _ iv _ => (ctorsL xs (⟨(q : Int), (r : Int)⟩ : Ty)).length - (intOf iv).toNat)
      case atStart => exact ⟨0, Nat.zero_le _, rfl, by rw [cntTo_zero]; rfl, Below.refl _ _⟩
      case round =>
        obtain ⟨i, hi, rfl, rfl, HBI⟩ := hrel
        obtain ⟨wo, hwo⟩ : ∃ wo, wo = wr := ⟨_, rfl⟩
        rw [← hwo] at HBI ⊢
        clear hwo
        have hB := hB3.trans (HBI.out.mono hB3.size)
        have KTo := Lib.hid (KT3.out.same (HBI.out.block _ KT3.out.lt))
        have y0 : wo.cell? ⟨w.heap.size, 0, none⟩ = some (.int .i64 (q : Int)) := (KTo.out.cell 0).trans (by simp)
        have y1 : wo.cell? ⟨w.heap.size, 1, none⟩ = some (.int .i64 (r : Int)) := (KTo.out.cell 1).trans (by simp)
        have ylt := KTo.out.lt
        have hs401 := cntTo_le xs d (⟨(q : Int), (r : Int)⟩ : Ty) i
        by_cases hil : i < (ctorsL xs (⟨(q : Int), (r : Int)⟩ : Ty)).length
        · have g1 : (0 : Int) ≤ (i : Int) := by omega
          have g2 : (i : Int) < ((ctorsL xs (⟨(q : Int), (r : Int)⟩ : Ty)).length : Int) := by omega
          obtain ⟨b3, off3, rfl⟩ := HA3.out.ptr (by omega)
          obtain ⟨hb3l, c3⟩ := ArrNat.at HA3.out HU3.out HBI.out i hil
          obtain ⟨q', m, e1, hkm, hq', hm⟩ := mem_ctorsL HT.out.inWorld (List.getElem_mem hil)
          obtain rfl : q = q' := Int.ofNat.inj e1
          have hme : (ctorsL xs (⟨(q : Int), (r : Int)⟩ : Ty))[i] ∈ (ctorsL xs (⟨(q : Int), (r : Int)⟩ : Ty)) := List.getElem_mem hil
          rw [hkm] at c3 hme
          have hals := argsOf_get (i := (r : Int)) hql hm
          have hca := (HW.out.ctor hql hm).args
          have HST : Hid (∀ j, (argsL xs[q].ctors[m] (r : Int)).length = j → cntTo xs d (⟨(q : Int), (r : Int)⟩ : Ty) (i + 1) = min (cntTo xs d (⟨(q : Int), (r : Int)⟩ : Ty) i + cntArg xs d (argsL xs[q].ctors[m] (r : Int)) j) 401) := fun j hj => by
            have h := cntTo_succ xs d (⟨(q : Int), (r : Int)⟩ : Ty) i hil (j := j) (by rw [hkm, hals]; exact hj)
            rw [hkm, hals] at h
            exact h
          have HTI : Hid (∀ a ∈ argsL xs[q].ctors[m] (r : Int), TyIn xs.length a) := fun a ha => argsOf_in HW.out HT.out hme (by rw [hals]; exact ha)
          clear hkm e1 hme hals
          go_wp2_with fail
          refine (impl_argTypes xs q m (r : Int) hql hm wo _ F (ArrDt.below HX.out hB HF.out) (HF.out.mono hB.size) hca).mono ?_
          rintro e w6 ⟨v6, F6, rfl, hb6, ha6, -, hfs6⟩
          have HB36 : Hid (Below w3.heap.size w3 w6) := HBI.out.trans (hb6.mono HBI.out.size)
          have hB6 := hB.trans (hb6.mono hB.size)
          generalize hass : argsL xs[q].ctors[m] (r : Int) = ls at *
          clear hass hca
          obtain ⟨A6, cap6, rfl, hd3, hd4⟩ := ha6.form
          have HA6 := Lib.hid ha6
          have HU6 := Lib.hid hfs6.under
          clear ha6 hfs6 hb6 KTo y0 y1 ylt c3 hb3l HBI hB
          go_wp2
          go_loopw [10, 31] (fun nv jv wr => ∃ j : Nat, j ≤ ls.length ∧ jv = .int .i64 j ∧ nv = .int .i64 (cntArg xs d ls j : Nat) ∧ Below w6.heap.size w6 wr) (fun _ jv _ => ls.length - (intOf jv).toNat)
          case atStart => exact ⟨0, Nat.zero_le _, rfl, by rw [cntArg_zero]; rfl, Below.refl _ _⟩
          case round =>
            obtain ⟨j, hj, rfl, rfl, hBr⟩ := hrel
            have hn401 := cntArg_le xs d ls j
            have hBw := hB6.trans (hBr.mono hB6.size)
            by_cases hjl : j < ls.length
            · have g3 : (0 : Int) ≤ (j : Int) := by omega
              have g4 : (j : Int) < (ls.length : Int) := by omega
              obtain ⟨b6, off6, rfl⟩ := HA6.out.ptr (by omega)
              obtain ⟨hb6l, a0, a1⟩ := ArrTy.at HA6.out HU6.out hBr j hjl
              have hcs := cntArg_succ xs d ls j hjl
              have hc401 := cntU_le xs d ls[j]
              have HTJ := Lib.hid (HTI.out ls[j] (List.getElem_mem hjl))
              have hBx : Below w6.heap.size w6 (wr.alloc (.cells #[.int .i64 ls[j].d, .int .i64 ls[j].i] 32)) := hBr.alloc hBr.size _
              have hBz : Below w.heap.size w (wr.alloc (.cells #[.int .i64 ls[j].d, .int .i64 ls[j].i] 32)) := hB6.trans (hBx.mono hB6.size)
              go_wp2_with fail
              refine (IH.out xs HW.out ls[j] HTJ.out (by omega) _ _ F (ArrDt.below HX.out hBz HF.out) (HF.out.mono hBz.size)).mono ?_
              rintro e w8 ⟨rfl, hb8⟩
              have hB8 : Below w6.heap.size w6 w8 := hBx.trans (hb8.mono hBx.size)
              have HCS := Lib.hid hcs
              generalize cntU xs d ls[j] = cv at *
              generalize cntArg xs d ls j = nv at *
              have hmul : nv * cv ≤ 401 * 401 := Nat.mul_le_mul hn401 hc401
              have hw2 : IntKind.i64.wrap ((nv : Int) * (cv : Int)) = ((nv * cv : Nat) : Int) := by rw [← Int.natCast_mul]; exact IntWalk.i64_in _ (by omega)
              clear hcs hb8 hBx hBz a0 a1 hb6l
              go_wp2
              go_roundw
              case rel => exact ⟨j + 1, hjl, by go_num, by rw [HCS.out, ← min_mul], hB8⟩
              case measure => (simp [intOf] <;> omega)
            · have hjd : ls.length = j := by omega
              have hst := HST.out j hjd
              have HST2 := Lib.hid hst
              have hBI2 : Hid (Below w3.heap.size w3 wr) := HB36.out.trans (hBr.mono HB36.out.size)
              clear hst
              generalize cntTo xs d (⟨(q : Int), (r : Int)⟩ : Ty) i = sv at *
              generalize cntArg xs d ls j = nv at *
              go_wp2
              go_roundw
              case rel => exact ⟨i + 1, hil, by go_num, by rw [HST2.out, ← min_add], hBI2⟩
              case measure => (simp [intOf] <;> omega)
        · have HALL := Lib.hid (cntTo_all (xs := xs) (d := d) HDN.out (i := i) (Nat.le_of_not_lt hil))
          go_wp2
          go_ret
          exact ⟨ret_int (congrArg Int.ofNat HALL.out), hB⟩
end Go.Proofs.Ytilndhmegaccmaa

namespace Go.Proofs.Ytilndhmegaccmaa
open Go.RowKit

section
variable {P : Program} {w : World}
theorem run_append_none (t ty e : TypeId) (i : TypeInfo) (ht : P.underlying t = some (.slice e)) (hi : P.info? e = some i) (A : Option Addr) (n cap c : Nat) (h : n ≤ cap) :
    (Builtin.append_ #[t, t] ty #[.slice A n cap, .slice none 0 c]).run P w = .ok (.slice A n cap) w := by
  cases A <;> simp [Builtin.append_, run_underlying ht, sizeOf, typeInfo, hi, Builtin.lenOf, Builtin.firstCells, storeCells, h]
/-- a whole slice, with what its elements lead to, behind a slice of the call's own -/
theorem run_append_all {α : Type} {R : World → α → List Value → List Nat → Prop} {B k : Nat} {E : TypeId} (t ty : TypeId) (i : TypeInfo) (z : Value) (bytes : Nat) (ht : P.underlying t = some (.slice E)) (hi : P.info? E = some i) (hz : i.zero = some z)
    (hsize : i.size = k) (hby : i.bytes = bytes) (hzs : z.cells.size = k) (hk : 0 < k) (hRl : ∀ w x cs G, R w x cs G → cs.length = k) (hRm : ∀ w w' x cs G, Kept G w w' → R w x cs G → R w' x cs G) (hR1 : ∀ w x cs G, R w x cs G → ∀ u ∈ cs, u.oneCell' = true)
    {xs : List α} {sv : Value} {F0 : List Nat} (hown : Own w B E k R xs sv F0) {ys : List α} {xv : Value} {F : List Nat} (hy : Arr w (R w) ys xv F) (hu : Under w.heap.size F) (hvG : ∀ g ∈ rowOf sv, g ∉ F)
    (h63 : xs.length + ys.length ≤ 1000000) (hbytes : (xs.length + ys.length) * bytes ≤ 140737488355328) (hbase : B ≤ w.heap.size) :
    ∃ v' w' G, (Builtin.append_ #[t, t] ty #[sv, xv]).run P w = .ok v' w' ∧ Own w' B E k R (xs ++ ys) v' (F0 ++ G) ∧ (∀ b ∈ G, b ∈ F) ∧ w.grownBy w' sv.ownBlock ∧ (v'.ownBlock = sv.ownBlock ∨ v'.ownBlock = some w.heap.size) := by
  have key : ∀ (a : Addr) (c : Nat) (cs1 : List Value) (G : List Nat), xv = .slice (some a) ys.length c → Flat (R w) ys cs1 G → (∀ b ∈ G, b ∈ F) → (∀ j u, cs1[j]? = some u → w.cell? (a.add j) = some u) →
      ∃ v' w' G, (Builtin.append_ #[t, t] ty #[sv, xv]).run P w = .ok v' w' ∧ Own w' B E k R (xs ++ ys) v' (F0 ++ G) ∧ (∀ b ∈ G, b ∈ F) ∧ w.grownBy w' sv.ownBlock ∧ (v'.ownBlock = sv.ownBlock ∨ v'.ownBlock = some w.heap.size) := by
    intro a c cs1 G hxv hf hGF hc
    subst hxv
    obtain ⟨cs, o1, o2, o3, o4⟩ := id hown
    have hl : cs1.length = ys.length * k := hf.length (hRl w)
    have hone := hf.ones (hR1 w)
    have hG : Under w.heap.size G := hu.sub hGF
    obtain ⟨v', w', hr, q1, q2, q3, q4⟩ := run_append_own_at (P := P) w B t ty E i z k bytes ht hi hz hsize hby hzs hk sv xs.length cs o1 a ys.length c cs1 hl hc hone (by unfold maxLen; omega) hbytes hbase
    refine ⟨v', w', G, hr, ⟨cs ++ cs1, by rw [List.length_append]; exact q1, ?_, ?_, ?_⟩, hGF, q2, q4⟩
    · exact (o2.mono fun x _ ds H hH hr => hRm w w' x ds H (grown_kept q2 (o3.sub hH) fun g hg hn => o4 g hg (hH g hn)) hr).append (hf.mono fun x _ ds H hH hr => hRm w w' x ds H (grown_kept q2 (hG.sub hH) fun g hg hn => hvG g hg (hGF g (hH g hn))) hr)
    · intro b hb
      rcases List.mem_append.1 hb with hb | hb
      · exact Nat.lt_of_lt_of_le (o3 b hb) q2.size
      · exact Nat.lt_of_lt_of_le (hG b hb) q2.size
    · intro b hb hbF
      have hb := mem_rowOf.1 hb
      rcases q4 with q4 | q4
      · rw [q4] at hb
        rcases List.mem_append.1 hbF with h | h
        · exact o4 b (mem_rowOf.2 hb) h
        · exact hvG b (mem_rowOf.2 hb) (hGF b h)
      · rw [q4] at hb
        obtain rfl := Option.some.inj hb
        rcases List.mem_append.1 hbF with h | h
        · exact Nat.lt_irrefl _ (o3 _ h)
        · exact Nat.lt_irrefl _ (hG _ h)
  obtain ⟨A, c, hv, h1, h2, h3⟩ := id hy
  rcases h3 with ⟨hys, hF⟩ | ⟨b, off, cs1, G, rfl, hc, hf, hF⟩
  · cases A with
    | none =>
      subst hv
      obtain ⟨A', cap', rfl, hc1, hc2⟩ := hown.form
      refine ⟨.slice A' xs.length cap', w, [], ?_, ?_, fun b hb => (by cases hb), ⟨rfl, rfl, rfl, Nat.le_refl _, fun _ _ _ => rfl⟩, .inl rfl⟩
      · subst hys
        exact run_append_none t ty E i ht hi A' xs.length cap' c hc1
      · subst hys
        rw [List.append_nil, List.append_nil]
        exact hown
    | some a => exact key a c [] [] hv (by subst hys; exact ⟨rfl, rfl⟩) (fun b hb => by cases hb) (fun j u h => by simp at h)
  · exact key ⟨b, off, none⟩ c cs1 G hv hf (fun b hb => by rw [hF]; exact List.mem_cons_of_mem _ hb) (fun j u hj => by rw [Addr.add_lit]; exact hc j u hj)
end
end Go.Proofs.Ytilndhmegaccmaa

namespace Go.Proofs.Ytilndhmegaccmaa
open Go.RowKit

set_option maxRecDepth 100000 in
set_option maxHeartbeats 1600000 in
theorem values_closure (xs : List Dt) (hw : WorldOK xs) (d : Nat) (hd : d + 1 ≤ 10) (a : Ty) (ha : TyIn xs.length a) (A : Option Addr) (cap : Nat) (g1 g2 : Nat) (w : World) (F : List Nat) (hx : Arr w (DtR w) xs (.slice A xs.length cap) F) (hf : Under w.heap.size F) (hg1 : w.cell? ⟨g1, 0, none⟩ = some (.slice A xs.length cap)) (hl1 : g1 < w.heap.size) (hg2 : w.cell? ⟨g2, 0, none⟩ = some (.int .i64 ((d : Int) + 1))) (hl2 : g2 < w.heap.size) :
    Calls Try.prog 116 #[.agg #[.int .i64 a.d, .int .i64 a.i], .pointer (some ⟨g1, 0, none⟩), .pointer (some ⟨g2, 0, none⟩)] w fun e w' => e = .returned (.bool ((valsL xs d a).length == 0)) ∧ Below w.heap.size w w' := by
  have HN := Lib.hid (cntU_none xs d a)
  have HX := Lib.hid hx
  have HF := Lib.hid hf
  clear hx hf
  go_enter Try.func116, Try.ntmps116
  go_wp2_with fail
  obtain ⟨W2, hW2⟩ : ∃ W2, W2 = (w.alloc (.cells #[.int .i64 a.d, .int .i64 a.i] 32)) := ⟨_, rfl⟩
  have hB : Below w.heap.size w W2 := by rw [hW2]; exact (Below.refl _ _).alloc (Nat.le_refl _) _
  have KP : Blk W2 w.heap.size 32 #[.int .i64 a.d, .int .i64 a.i] := by rw [hW2]; exact Blk.new _ _ _
  have z0 : W2.cell? ⟨w.heap.size, 0, none⟩ = some (.int .i64 a.d) := (KP.cell 0).trans (by simp)
  have z1 : W2.cell? ⟨w.heap.size, 1, none⟩ = some (.int .i64 a.i) := (KP.cell 1).trans (by simp)
  have klt := KP.lt
  have y0 : W2.cell? ⟨g1, 0, none⟩ = some (.slice A xs.length cap) := (hB.cell (p := ⟨g1, 0, none⟩) hl1).trans hg1
  have y1 : W2.cell? ⟨g2, 0, none⟩ = some (.int .i64 ((d : Int) + 1)) := (hB.cell (p := ⟨g2, 0, none⟩) hl2).trans hg2
  have l1 := Nat.lt_of_lt_of_le hl1 hB.size
  have l2 := Nat.lt_of_lt_of_le hl2 hB.size
  rw [← hW2]
  clear hW2 KP hg1 hg2 hl1 hl2
  go_wp2_with fail
  refine (impl_countValues d xs hw a ha (by omega) W2 _ F (ArrDt.below HX.out hB HF.out) (HF.out.mono hB.size)).mono ?_
  rintro e w' ⟨rfl, hB'⟩
  have hB3 := hB.trans (hB'.mono hB.size)
  generalize hbb : ((cntU xs d a : Nat) : Int) = bb
  rw [hbb] at HN
  clear hbb hB' y0 y1 z0 z1 l1 l2 klt
  go_wp2
  go_ret
  exact ⟨ret_bool HN.out, hB3⟩
set_option maxRecDepth 100000 in
set_option maxHeartbeats 1600000 in
theorem IndexFunc_Ty2 (xs : List Dt) (hw : WorldOK xs) (d : Nat) (hd : d + 1 ≤ 10) (A : Option Addr) (cap : Nat) (g1 g2 : Nat) (l : List Ty) (hl : ∀ a ∈ l, TyIn xs.length a) (r : Int) (hr : FirstAt (fun a => (valsL xs d a).length == 0) l r) (w : World) (y : Value) (F G : List Nat) (hx : Arr w (DtR w) xs (.slice A xs.length cap) F) (hf : Under w.heap.size F) (hy : Arr w (TyR w) l y G) (hh : Under w.heap.size G) (hg1 : w.cell? ⟨g1, 0, none⟩ = some (.slice A xs.length cap)) (hl1 : g1 < w.heap.size) (hg2 : w.cell? ⟨g2, 0, none⟩ = some (.int .i64 ((d : Int) + 1))) (hl2 : g2 < w.heap.size) :
    Calls Try.prog 148 #[y, .func (.func 116) #[] #[.pointer (some ⟨g1, 0, none⟩), .pointer (some ⟨g2, 0, none⟩)]] w fun e w' => e = .returned (.int .i64 r) ∧ Below w.heap.size w w' := by
  obtain ⟨B, bap, rfl, hc1, hc2⟩ := hy.form
  have HLL := Lib.hid hl
  have HX := Lib.hid hx
  have HF := Lib.hid hf
  have HR := Lib.hid hr
  have HY := Lib.hid hy
  have HH := Lib.hid hh
  have HG1 := Lib.hid hg1
  have HG2 := Lib.hid hg2
  clear hx hf hr hy hh hg1 hg2
  clear hl
  go_enter Try.func148, Try.ntmps148
  go_wp2
  go_loopw [8] (fun iv wr => ∃ i : Nat, i ≤ l.length ∧ iv = .int .i64 i ∧ Hid (∀ j (hj : j < l.length), j < i → ((valsL xs d l[j]).length == 0) = false) ∧ Below w.heap.size w wr) (fun iv _ => l.length - (intOf iv).toNat)
  case atStart => exact ⟨0, Nat.zero_le _, rfl, fun j hj h => by omega, Below.refl _ _⟩
  case round =>
    obtain ⟨i, hk, rfl, HT, hB⟩ := hrel
    by_cases hlt : i < l.length
    · have hi0 : (0 : Int) ≤ (i : Int) := by omega
      have hi1 : (i : Int) < (l.length : Int) := by omega
      obtain ⟨b, off, rfl⟩ := HY.out.ptr (by omega)
      obtain ⟨hb, c0, c1⟩ := ArrTy.at HY.out HH.out hB i hlt
      go_wp2_with fail
      refine (values_closure xs hw d hd l[i] (HLL.out _ (List.getElem_mem hlt)) A cap g1 g2 wr F (ArrDt.below HX.out hB HF.out) (HF.out.mono hB.size) ((hB.cell (p := ⟨g1, 0, none⟩) hl1).trans HG1.out) (Nat.lt_of_lt_of_le hl1 hB.size) ((hB.cell (p := ⟨g2, 0, none⟩) hl2).trans HG2.out) (Nat.lt_of_lt_of_le hl2 hB.size)).mono ?_
      rintro e w' ⟨rfl, hB'⟩
      have hB3 := hB.trans (hB'.mono hB.size)
      cases hq : ((valsL xs d l[i]).length == 0) with
      | true =>
        have hf : Hid (r = (i : Int)) := HR.out.hit hlt hq (fun j hj h => HT.out j hj h)
        clear hq c0 c1
        go_wp2
        go_ret
        exact ⟨ret_int hf.out.symm, hB3⟩
      | false =>
        have hT2 : Hid (∀ j (hj : j < l.length), j < i + 1 → ((valsL xs d l[j]).length == 0) = false) := fun j hj h => by
          rcases Nat.lt_or_ge j i with h2 | h2
          · exact HT.out j hj h2
          · obtain rfl : j = i := by omega
            exact hq
        clear hq c0 c1
        go_wp2
        go_roundw
        case rel => exact ⟨i + 1, by omega, by go_num, hT2, hB3⟩
        case measure => simp [intOf]; omega
    · have hf : Hid (r = -1) := HR.out.miss (fun j hj => HT.out j hj (by omega))
      go_wp2
      go_ret
      exact ⟨ret_int hf.out.symm, hB⟩
set_option maxRecDepth 100000 in
set_option maxHeartbeats 1600000 in
theorem ContainsFunc_Ty2 (xs : List Dt) (hw : WorldOK xs) (d : Nat) (hd : d + 1 ≤ 10) (A : Option Addr) (cap : Nat) (g1 g2 : Nat) (l : List Ty) (hl : ∀ a ∈ l, TyIn xs.length a) (w : World) (y : Value) (F G : List Nat) (hx : Arr w (DtR w) xs (.slice A xs.length cap) F) (hf : Under w.heap.size F) (hy : Arr w (TyR w) l y G) (hh : Under w.heap.size G) (hg1 : w.cell? ⟨g1, 0, none⟩ = some (.slice A xs.length cap)) (hl1 : g1 < w.heap.size) (hg2 : w.cell? ⟨g2, 0, none⟩ = some (.int .i64 ((d : Int) + 1))) (hl2 : g2 < w.heap.size) :
    Calls Try.prog 115 #[y, .func (.func 116) #[] #[.pointer (some ⟨g1, 0, none⟩), .pointer (some ⟨g2, 0, none⟩)]] w fun e w' => e = .returned (.bool (noneB xs d l)) ∧ Below w.heap.size w w' := by
  obtain ⟨r, hr⟩ := FirstAt.ex (fun a => (valsL xs d a).length == 0) l
  have hres : Hid (noneB xs d l = decide (0 ≤ r)) := hr.any
  have hcall := IndexFunc_Ty2 xs hw d hd A cap g1 g2 l hl r hr w y F G hx hf hy hh hg1 hl1 hg2 hl2
  obtain ⟨B, bap, rfl, hc1, hc2⟩ := hy.form
  have HC := Lib.hid hcall
  clear hcall hr hx hf hy hh hg1 hg2
  go_enter Try.func115, Try.ntmps115
  go_wp2_with fail
  refine HC.out.mono ?_
  rintro e w' ⟨rfl, hB'⟩
  go_wp2
  go_ret
  exact ⟨ret_bool hres.out.symm, hB'⟩
theorem VR_one (w : World) (x : V) (cs : List Value) (G : List Nat) (h : VR w x cs G) : ∀ u ∈ cs, u.oneCell' = true := by
  obtain ⟨kv, rfl, ha⟩ := (VR_iff _ _ _).1 h
  obtain ⟨A, cap, rfl, -, -⟩ := ha.form
  simp [Value.oneCell']
/-- a copy of a list of values: a row of the call's own, its elements as before -/
def ClonedV (ks : List V) (w : World) (F : List Nat) (e : Ending) (w' : World) : Prop := ∃ v G, e = .returned v ∧ Below w.heap.size w w' ∧ Own w' w.heap.size 53 3 VR ks v G ∧ ∀ b ∈ G, b ∈ F
set_option maxRecDepth 100000 in
set_option maxHeartbeats 1600000 in
theorem Clone_V (ks : List V) (hk : ks.length ≤ 1000) (w : World) (x : Value) (F : List Nat) (hx : Arr w (VR w) ks x F) (hf : Under w.heap.size F) : Calls Try.prog 117 #[x] w (ClonedV ks w F) := by
  obtain ⟨A, cap, rfl, hc1, hc2⟩ := hx.form
  obtain ⟨i0, hi, hz0, hz1, hz2⟩ := info_parts info_VE
  have HI := Lib.hid hi
  have HZ0 := Lib.hid hz0
  have HZ1 := Lib.hid hz1
  have HZ2 := Lib.hid hz2
  have HX := Lib.hid hx
  have HF := Lib.hid hf
  clear hi hz0 hz1 hz2 hx hf
  have qT : ∀ (w : World) (a : Option Addr) (n c n' c' : Nat), (binOp .eql 39 (.slice a n c) (.slice none n' c')).run Try.prog w = .ok (.bool a.isNone) w := fun w a n c n' c' => Lib.run_eql_slice_nil w _ _ a n c n' c' Try.underlying39
  cases A with
  | none =>
    have hz : ks = [] := by
      obtain ⟨A', cap', hv, h1, h2, h3⟩ := HX.out
      cases hv
      rcases h3 with ⟨h, -⟩ | ⟨b, off, cs, G, h, -⟩
      · exact h
      · cases h
    subst hz
    go_enter Try.func117, Try.ntmps117
    go_wp2
    go_ret
    exact ⟨_, [], rfl, Below.refl _ _, Own.nil _ _ _ _ _, fun b hb => by cases hb⟩
  | some ad =>
    have hB0 : Below w.heap.size w (w.alloc (.cells #[] 53)) := (Below.refl _ _).alloc (Nat.le_refl _) _
    have hO0 : Own (w.alloc (.cells #[] 53)) w.heap.size 53 3 VR ([] : List V) (.slice (some ⟨w.heap.size, 0, none⟩) 0 0) [] := Own.made w _ _ _ _ _ 0 (Nat.le_refl _) (by simp [maxLen]) rfl
    have hX0 : Arr (w.alloc (.cells #[] 53)) (VR (w.alloc (.cells #[] 53))) ks (.slice (some ad) ks.length cap) F := ArrV.below HX.out hB0 HF.out
    obtain ⟨v', w', G, hr, ho, hG, hgr, hat⟩ := run_append_all (P := Try.prog) 39 39 i0 _ 40 Try.underlying39 HI.out HZ0.out HZ1.out HZ2.out rfl (by decide) VR_len' VR_mono' VR_one hO0 hX0 (HF.out.mono hB0.size) (fun g hg hgF => by rw [rowOf_some, List.mem_singleton] at hg; subst hg; exact Nat.lt_irrefl _ (HF.out _ hgF)) (by simp; omega) (by simp; omega) hB0.size
    rw [List.nil_append, List.nil_append] at ho
    have hB' : Below w.heap.size w w' := hB0.grown hgr hB0.size (fun g hg => by
      have hg : some w.heap.size = some g := hg
      cases hg; exact Nat.le_refl _)
    have HFin : Hid (ClonedV ks w F (.returned v') w') := ⟨v', G, rfl, hB', ho, hG⟩
    have HRUN := Lib.hid hr
    clear hr ho hB' hgr hat hG hX0 hO0 hB0
    go_enter Try.func117, Try.ntmps117
    go_wp2_with (at_builtin; refine Halt.mk ?_)
    refine Halt.of (wpList_append_run rfl _ _ 39 rfl (by rfl) (by rfl) HRUN.out ?_)
    go_wp2
    go_ret
    exact HFin.out
end Go.Proofs.Ytilndhmegaccmaa
