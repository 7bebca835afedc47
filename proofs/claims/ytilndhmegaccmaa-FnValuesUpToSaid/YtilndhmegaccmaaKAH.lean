/-
  Lemmas and contracts of functions: valueScan of the program, without holes. Conditions: the world is valid. ValueValid of both. Conditions: no more than a million nodes. What comes in as an argument (slices of structs, trees) lies in memory as the plain data say. Conditions: none. A slice of bytes that comes in as an argument lies in memory as the plain data say. Conditions: none.
-/
import Derived.Test.YtilndhmegaccmaaKAG
import Derived.Test.YtilndhmegaccmaaKAA
import Derived.Deep.RegionHeld3
import Derived.Deep.RegionWith
import Derived.Deep.QuietTactic
import Derived.BigQuiet
import Derived.IntWalk
import Derived.ProofKit
import Derived.ChangeArms
import Derived.Deep.Fields
import Derived.Test.YtilndhmegaccmaaKAC
import Derived.Test.YtilndhmegaccmaaChecked

set_option linter.unusedVariables false
set_option linter.unusedSimpArgs false

namespace Go.Proofs.Ytilndhmegaccmaa
open Go.RowKit

def scanB (xs : List Dt) (d : Nat) (t : Ty) (v : V) (c : Int) : Bool := fitsV xs d t v && decide (c + nodes v ≤ 60)
/-- what valueScan gives: whether the value fits and the count stays within 60, and then the count -/
def ScanPost (xs : List Dt) (d : Nat) (t : Ty) (v : V) (c : Int) (g : Nat) (w : World) (e : Ending) (w' : World) : Prop :=
  ∃ c' : Int, e = .returned (.bool (scanB xs d t v c)) ∧ Chg [g] w w' ∧ Blk w' g 3 #[.int .i64 c'] ∧ (scanB xs d t v c = true → c' = c + nodes v) ∧ 0 ≤ c'
/-- contract of valueScan at one value -/
def ScanI (v : V) : Prop := ∀ (xs : List Dt) (_ : WorldOK xs) (d deep : Nat) (_ : d + deep = 11) (_ : 1 ≤ deep) (t : Ty) (_ : TyIn xs.length t) (w : World) (x : Value) (F : List Nat) (cs : List Value) (G : List Nat) (g : Nat) (c : Int), Arr w (DtR w) xs x F → Under w.heap.size F → VR w v cs G → Under w.heap.size G →
  Blk w g 3 #[.int .i64 c] → g ∉ F → g ∉ G → 0 ≤ c → c ≤ 60 →
  Calls Try.prog 121 #[x, .agg #[.int .i64 t.d, .int .i64 t.i], .agg cs.toArray, .int .i64 (deep : Int), .bool false, .pointer (some ⟨g, 0, none⟩)] w (ScanPost xs d t v c g w)
theorem isNum_nodes {v : V} (h : isNum v = true) : nodes v = 1 := by
  unfold isNum at h
  simp only [Bool.and_eq_true, decide_eq_true_eq] at h
  rw [nodes_ks, List.length_eq_zero_iff.1 h.2.2]; rfl

set_option maxRecDepth 100000 in
set_option maxHeartbeats 1600000 in
theorem valueScan_of (v : V) (ih : ∀ k ∈ v.ks, ScanI k) : ScanI v := by
  intro xs hw d deep hdd hdp t ht w x F cs G g c hx hf hv hg hgb hgF hgG hc0 hc60
  obtain ⟨kv, rfl, ha⟩ := (VR_iff _ _ _).1 hv
  obtain ⟨A, cap, rfl, hc1, hc2⟩ := hx.form
  obtain ⟨A4, cap4, rfl, hc3, hc4⟩ := ha.form
  have HW := Lib.hid hw
  have IH := Lib.hid ih
  have HGF := Lib.hid hgF
  have HGG := Lib.hid hgG
  have hgl := hgb.lt
  have gx : w.cell? ⟨g, 0, none⟩ = some (.int .i64 c) := (hgb.cell 0).trans (by simp)
  have gf := hgb.frozen 0
  have HGB := Lib.hid hgb
  have HNP : Hid (1 ≤ nodes v) := by unfold nodes; exact Nat.le_add_right _ _
  have HX := Lib.hid hx
  have HF := Lib.hid hf
  have HA := Lib.hid ha
  have HG := Lib.hid hg
  clear hx hf ha hg
  clear hw ih hv hgF hgG hgb
  by_cases hcc : 60 < c + 1
  · have t9 : decide (c + 1 > 60) = true := by simpa using hcc
    have HT : Hid (scanB xs d t v c = false) := by
      have := HNP.out
      unfold Hid scanB; rw [decide_eq_false (by omega), Bool.and_false]
    have KG : Hid (Blk (((w.setCell ⟨g, 0, none⟩ (.int .i64 (c + 1))).alloc (.cells #[.int .i64 t.d, .int .i64 t.i] 32)).alloc (.cells #[.int .i64 v.c, .int .i64 v.n, .slice A4 v.ks.length cap4] 53)) g 3 #[.int .i64 (c + 1)]) := by
      have h1 : Blk (w.setCell ⟨g, 0, none⟩ (.int .i64 (c + 1))) g 3 #[.int .i64 (c + 1)] := HGB.out.set_ 0 (.int .i64 (c + 1))
      exact (h1.same (Below.heap_alloc _ _ _ h1.lt)).same (Below.heap_alloc _ _ _ (by have := h1.lt; simp; omega))
    have HCG : Hid (Chg [g] w (((w.setCell ⟨g, 0, none⟩ (.int .i64 (c + 1))).alloc (.cells #[.int .i64 t.d, .int .i64 t.i] 32)).alloc (.cells #[.int .i64 v.c, .int .i64 v.n, .slice A4 v.ks.length cap4] 53))) := (((Chg.refl [g] w).set (by simp)).step ((Below.refl _ _).alloc (Nat.le_refl _) _)).step ((Below.refl _ _).alloc (Nat.le_refl _) _)
    have hfin : ScanPost xs d t v c g w (.returned (.bool false)) (((w.setCell ⟨g, 0, none⟩ (.int .i64 (c + 1))).alloc (.cells #[.int .i64 t.d, .int .i64 t.i] 32)).alloc (.cells #[.int .i64 v.c, .int .i64 v.n, .slice A4 v.ks.length cap4] 53)) := ⟨c + 1, by rw [HT.out], HCG.out, KG.out, (fun h => by rw [HT.out] at h; cases h), by omega⟩
    have HFin := Lib.hid hfin
    clear hfin
    go_enter Try.func121, Try.ntmps121
    go_wp2
    go_ret
    exact HFin.out
  · have t9 : decide (c + 1 > 60) = false := by simp; omega
    cases d with
    | zero =>
      have t8 : decide ((deep : Int) > 10) = true := by simp; omega
      have HT : Hid (scanB xs 0 t v c = false) := rfl
      have KG : Hid (Blk (((w.setCell ⟨g, 0, none⟩ (.int .i64 (c + 1))).alloc (.cells #[.int .i64 t.d, .int .i64 t.i] 32)).alloc (.cells #[.int .i64 v.c, .int .i64 v.n, .slice A4 v.ks.length cap4] 53)) g 3 #[.int .i64 (c + 1)]) := by
        have h1 : Blk (w.setCell ⟨g, 0, none⟩ (.int .i64 (c + 1))) g 3 #[.int .i64 (c + 1)] := HGB.out.set_ 0 (.int .i64 (c + 1))
        exact (h1.same (Below.heap_alloc _ _ _ h1.lt)).same (Below.heap_alloc _ _ _ (by have := h1.lt; simp; omega))
      have HCG : Hid (Chg [g] w (((w.setCell ⟨g, 0, none⟩ (.int .i64 (c + 1))).alloc (.cells #[.int .i64 t.d, .int .i64 t.i] 32)).alloc (.cells #[.int .i64 v.c, .int .i64 v.n, .slice A4 v.ks.length cap4] 53))) := (((Chg.refl [g] w).set (by simp)).step ((Below.refl _ _).alloc (Nat.le_refl _) _)).step ((Below.refl _ _).alloc (Nat.le_refl _) _)
      have hfin : ScanPost xs 0 t v c g w (.returned (.bool false)) (((w.setCell ⟨g, 0, none⟩ (.int .i64 (c + 1))).alloc (.cells #[.int .i64 t.d, .int .i64 t.i] 32)).alloc (.cells #[.int .i64 v.c, .int .i64 v.n, .slice A4 v.ks.length cap4] 53)) := ⟨c + 1, by rw [HT.out], HCG.out, KG.out, (fun h => by rw [HT.out] at h; cases h), by omega⟩
      have HFin := Lib.hid hfin
      clear hfin
      go_enter Try.func121, Try.ntmps121
      go_wp2
      go_ret
      exact HFin.out
    | succ d =>
    have t8 : decide ((deep : Int) > 10) = false := by simp; omega
    obtain ⟨W3, hW3⟩ : ∃ W3, W3 = (((w.setCell ⟨g, 0, none⟩ (.int .i64 (c + 1))).alloc (.cells #[.int .i64 t.d, .int .i64 t.i] 32)).alloc (.cells #[.int .i64 v.c, .int .i64 v.n, .slice A4 v.ks.length cap4] 53)) := ⟨_, rfl⟩
    have KT : Hid (Blk W3 w.heap.size 32 #[.int .i64 t.d, .int .i64 t.i]) := by
      rw [hW3]
      have h := Blk.new (w.setCell ⟨g, 0, none⟩ (.int .i64 (c + 1))) 32 #[.int .i64 t.d, .int .i64 t.i]
      rw [show ((w.setCell ⟨g, 0, none⟩ (.int .i64 (c + 1)))).heap.size = w.heap.size from by simp [World.setCell]] at h
      exact h.same (Below.heap_alloc _ _ _ (by simp [World.setCell]))
    have KV : Hid (Blk W3 (w.heap.size + 1) 53 #[.int .i64 v.c, .int .i64 v.n, .slice A4 v.ks.length cap4]) := by
      rw [hW3]
      have h := Blk.new ((w.setCell ⟨g, 0, none⟩ (.int .i64 (c + 1))).alloc (.cells #[.int .i64 t.d, .int .i64 t.i] 32)) 53 #[.int .i64 v.c, .int .i64 v.n, .slice A4 v.ks.length cap4]
      rw [World.size_alloc, show ((w.setCell ⟨g, 0, none⟩ (.int .i64 (c + 1)))).heap.size = w.heap.size from by simp [World.setCell]] at h
      exact h
    have KG : Hid (Blk W3 g 3 #[.int .i64 (c + 1)]) := by
      rw [hW3]
      have h1 : Blk (w.setCell ⟨g, 0, none⟩ (.int .i64 (c + 1))) g 3 #[.int .i64 (c + 1)] := HGB.out.set_ 0 (.int .i64 (c + 1))
      exact (h1.same (Below.heap_alloc _ _ _ h1.lt)).same (Below.heap_alloc _ _ _ (by have := h1.lt; simp; omega))
    have HCG : Hid (Chg [g] w W3) := by
      rw [hW3]; exact (((Chg.refl [g] w).set (by simp)).step ((Below.refl _ _).alloc (Nat.le_refl _) _)).step ((Below.refl _ _).alloc (Nat.le_refl _) _)
    have HX3 : Hid (Arr W3 (DtR W3) xs (.slice A xs.length cap) F) := ArrDt.mono HX.out (HCG.out.kept HF.out (fun b hb h => HGF.out (by rw [← List.mem_singleton.1 h]; exact hb)))
    have HF3 := Lib.hid (HF.out.mono HCG.out.size)
    have HA3 : Hid (Arr W3 (VR W3) v.ks (.slice A4 v.ks.length cap4) G) := ArrV.mono HA.out (HCG.out.kept HG.out (fun b hb h => HGG.out (by rw [← List.mem_singleton.1 h]; exact hb)))
    have HG3 := Lib.hid (HG.out.mono HCG.out.size)
    have y0 : W3.cell? ⟨w.heap.size, 0, none⟩ = some (.int .i64 t.d) := (KT.out.cell 0).trans (by simp)
    have y1 : W3.cell? ⟨w.heap.size, 1, none⟩ = some (.int .i64 t.i) := (KT.out.cell 1).trans (by simp)
    have z0 : W3.cell? ⟨w.heap.size + 1, 0, none⟩ = some (.int .i64 v.c) := (KV.out.cell 0).trans (by simp)
    have z1 : W3.cell? ⟨w.heap.size + 1, 1, none⟩ = some (.int .i64 v.n) := (KV.out.cell 1).trans (by simp)
    have z2 : W3.cell? ⟨w.heap.size + 1, 2, none⟩ = some (.slice A4 v.ks.length cap4) := (KV.out.cell 2).trans (by simp)
    have klt := KT.out.lt
    have klt2 := KV.out.lt
    have hgl3 := KG.out.lt
    rcases ht with ht | ⟨q, r, rfl, hql, hrl⟩
    · have t0 : (t.d == -1) = true := by simp [ht]
      have hfi := fitsV_int (xs := xs) (d := d) (v := v) ht
      have hEnd : ∀ r : Bool, isNum v = r → ScanPost xs (d + 1) t v c g w (.returned (.bool r)) W3 := fun r hr => by
        have hT : scanB xs (d + 1) t v c = r := by
          unfold scanB
          rw [hfi, hr]
          cases r with
          | false => rfl
          | true => rw [isNum_nodes hr, Bool.true_and]; exact decide_eq_true (by omega)
        exact ⟨c + 1, by rw [hT], HCG.out, KG.out, (fun h => by rw [hT] at h; rw [isNum_nodes (hr.trans h)]; rfl), by omega⟩
      have HEnd := Lib.hid hEnd
      clear hEnd hfi ht
      cases q0 : (v.c == -1) with
      | false =>
        have HFin := Lib.hid (HEnd.out false (by unfold isNum; rw [q0]; rfl))
        go_enter Try.func121, Try.ntmps121
        go_wp2_with fail
        rw [← hW3]
        clear hW3
        go_wp2
        go_ret
        exact HFin.out
      | true =>
        cases q1 : withinB v.n 0 9 with
        | false =>
          have HFin := Lib.hid (HEnd.out false (by unfold isNum; rw [q0, q1]; rfl))
          have HQ1 := Lib.hid q1
          clear q1
          go_enter Try.func121, Try.ntmps121
          go_wp2_with fail
          rw [← hW3]
          clear hW3
          refine (impl_within v.n 0 9 W3).mono ?_
          rintro e w5 ⟨rfl, rfl⟩
          rw [HQ1.out]
          go_wp2
          go_ret
          exact HFin.out
        | true =>
          by_cases q2 : v.ks.length = 0
          · have HFin := Lib.hid (HEnd.out true (by unfold isNum; rw [q0, q1, decide_eq_true q2]; rfl))
            have t3 : ((v.ks.length : Int) == 0) = true := by simp [q2]
            have HQ1 := Lib.hid q1
            clear q1 q2
            go_enter Try.func121, Try.ntmps121
            go_wp2_with fail
            rw [← hW3]
            clear hW3
            refine (impl_within v.n 0 9 W3).mono ?_
            rintro e w5 ⟨rfl, rfl⟩
            rw [HQ1.out]
            go_wp2
            go_ret
            exact HFin.out
          · have HFin := Lib.hid (HEnd.out false (by unfold isNum; rw [q0, q1, decide_eq_false q2]; rfl))
            have t3 : ((v.ks.length : Int) == 0) = false := by simp; simpa using q2
            have HQ1 := Lib.hid q1
            clear q1 q2
            go_enter Try.func121, Try.ntmps121
            go_wp2_with fail
            rw [← hW3]
            clear hW3
            refine (impl_within v.n 0 9 W3).mono ?_
            rintro e w5 ⟨rfl, rfl⟩
            rw [HQ1.out]
            go_wp2
            go_ret
            exact HFin.out
    · have t0 : ((q : Int) == -1) = false := by rw [beq_eq_false_iff_ne]; omega
      have hfd := fitsV_data (xs := xs) (d := d) (v := v) (t := ⟨(q : Int), (r : Int)⟩) (by show ¬ ((q : Int) = -1); omega)
      have HFD := Lib.hid hfd
      clear hfd
      have HBad : Hid (∀ W c', fitsV xs (d + 1) ⟨(q : Int), (r : Int)⟩ v = false ∨ (60 : Int) < c + nodes v → Chg [g] w W → Blk W g 3 #[.int .i64 c'] → 0 ≤ c' → ScanPost xs (d + 1) ⟨(q : Int), (r : Int)⟩ v c g w (.returned (.bool false)) W) := fun W c' h hC hK hc' => by
        have hT : scanB xs (d + 1) ⟨(q : Int), (r : Int)⟩ v c = false := by
          unfold scanB
          rcases h with h | h
          · rw [h]; rfl
          · rw [decide_eq_false (by omega), Bool.and_false]
        exact ⟨c', by rw [hT], hC, hK, (fun h => by rw [hT] at h; cases h), hc'⟩
      go_enter Try.func121, Try.ntmps121
      go_wp2_with fail
      rw [← hW3]
      clear hW3
      cases q0 : (v.n == 0) with
      | false =>
        have t1 : (v.n != 0) = true := by rw [bne, q0]; rfl
        have HFin : Hid (∀ n, ScanPost xs (d + 1) ⟨(q : Int), (r : Int)⟩ v c g w (.returned (.bool false)) (W3.drewN n)) := fun n => HBad.out _ (c + 1) (.inl (by rw [HFD.out, q0]; rfl)) (HCG.out.drewN n) KG.out (by omega)
        clear q0
        go_quiet (fail)
        go_wp2
        go_ret
        exact HFin.out _
      | true =>
        have t1 : (v.n != 0) = false := by rw [bne, q0]; rfl
        have h1 : fitsV xs (d + 1) ⟨(q : Int), (r : Int)⟩ v = (hasB (ctorsL xs ⟨(q : Int), (r : Int)⟩) v.c && (decide (v.ks.length = (argsOf xs ⟨(q : Int), (r : Int)⟩ v.c).length) && zipAll (fitsV xs d) (argsOf xs ⟨(q : Int), (r : Int)⟩ v.c) v.ks)) := by rw [HFD.out, q0, Bool.true_and]
        have H1 := Lib.hid h1
        have HIW : Hid (InWorld xs.length ⟨(q : Int), (r : Int)⟩) := .inr ⟨q, rfl, hql⟩
        clear h1 q0
        have hBr := Below.refl W3.heap.size W3
        have hkeep : ∀ U U' : World, (U.cell? ⟨w.heap.size, 0, none⟩ = some (.int .i64 (q : Int)) ∧ U.cell? ⟨w.heap.size, 1, none⟩ = some (.int .i64 (r : Int)) ∧ U.cell? ⟨w.heap.size + 1, 0, none⟩ = some (.int .i64 v.c) ∧ U.cell? ⟨w.heap.size + 1, 1, none⟩ = some (.int .i64 v.n) ∧ U.cell? ⟨w.heap.size + 1, 2, none⟩ = some (.slice A4 v.ks.length cap4)) → Below U.heap.size U U' → W3.heap.size ≤ U.heap.size → (U'.cell? ⟨w.heap.size, 0, none⟩ = some (.int .i64 (q : Int)) ∧ U'.cell? ⟨w.heap.size, 1, none⟩ = some (.int .i64 (r : Int)) ∧ U'.cell? ⟨w.heap.size + 1, 0, none⟩ = some (.int .i64 v.c) ∧ U'.cell? ⟨w.heap.size + 1, 1, none⟩ = some (.int .i64 v.n) ∧ U'.cell? ⟨w.heap.size + 1, 2, none⟩ = some (.slice A4 v.ks.length cap4)) := fun U U' h hUU hU => ⟨(hUU.cell (Nat.lt_of_lt_of_le (klt) hU)).trans h.1, (hUU.cell (Nat.lt_of_lt_of_le (klt) hU)).trans h.2.1, (hUU.cell (Nat.lt_of_lt_of_le (klt2) hU)).trans h.2.2.1, (hUU.cell (Nat.lt_of_lt_of_le (klt2) hU)).trans h.2.2.2.1, (hUU.cell (Nat.lt_of_lt_of_le (klt2) hU)).trans h.2.2.2.2⟩
        have HKeep := Lib.hid hkeep
        clear hkeep
        go_region_held3 (fun w' => w'.cell? ⟨w.heap.size, 0, none⟩ = some (.int .i64 (q : Int)) ∧ w'.cell? ⟨w.heap.size, 1, none⟩ = some (.int .i64 (r : Int)) ∧ w'.cell? ⟨w.heap.size + 1, 0, none⟩ = some (.int .i64 v.c) ∧ w'.cell? ⟨w.heap.size + 1, 1, none⟩ = some (.int .i64 v.n) ∧ w'.cell? ⟨w.heap.size + 1, 2, none⟩ = some (.slice A4 v.ks.length cap4)) (first | assumption | (exact ⟨y0, y1, z0, z1, z2⟩) | (exact HKeep.out W3.drew w4 ⟨y0, y1, z0, z1, z2⟩ hb4 (Nat.le_refl _)) | (exact HKeep.out w4 w5 (by assumption) hb5 hlew4)) (first | (go_at_call 112; ((with_reducible refine (impl_ctorsOf xs ⟨(q : Int), (r : Int)⟩ _ _ F (ArrDt.below HX3.out hBr.drew HF3.out) (HF3.out.mono hBr.drew.size) HW.out HIW.out).mono ?_); rintro e w4 ⟨v4, F4, rfl, hb4, ha4, -, hfs4⟩); have hlew4 : W3.heap.size ≤ w4.heap.size := hb4.size) | (go_at_call 152; ((with_reducible refine (impl_has (ctorsL xs ⟨(q : Int), (r : Int)⟩) v.c _ _ F4 ha4 hfs4.under).mono ?_); rintro e w5 ⟨rfl, hb5⟩)))
        have hBa := hBr.drew.trans (hb4.mono hBr.drew.size)
        have hB5 := hBa.trans (hb5.mono hBa.size)
        have KT5 := Lib.hid (KT.out.same (hB5.block _ KT.out.lt))
        have KV5 := Lib.hid (KV.out.same (hB5.block _ KV.out.lt))
        have KG5 := Lib.hid (KG.out.same (hB5.block _ KG.out.lt))
        have HCG5 := Lib.hid (HCG.out.step hB5)
        have HX5 := Lib.hid (ArrDt.below HX3.out hB5 HF3.out)
        have HF5 := Lib.hid (HF3.out.mono hB5.size)
        have HA5 := Lib.hid (ArrV.below HA3.out hB5 HG3.out)
        have HG5 := Lib.hid (HG3.out.mono hB5.size)
        clear HKeep KT KV KG HCG HX3 HF3 HA3 HG3 y0 y1 z0 z1 z2 klt klt2 hBa hb4 hb5 ha4 hfs4 hBr t1 hgl3 gx gf
        cases e1 : hasB (ctorsL xs ⟨(q : Int), (r : Int)⟩) v.c with
        | false =>
          have HFin := Lib.hid (HBad.out w5 (c + 1) (.inl (by rw [H1.out, e1]; rfl)) HCG5.out KG5.out (by omega))
          clear e1
          go_wp2
          go_ret
          exact HFin.out
        | true =>
          obtain ⟨q', k, e2, hvc, hq', hkl⟩ := mem_ctorsL (xs := xs) (t := ⟨(q : Int), (r : Int)⟩) (.inr ⟨q, rfl, hql⟩) ((hasB_iff _ _).1 e1)
          obtain rfl : q = q' := Int.ofNat.inj e2
          have h2 := H1.out
          rw [e1, Bool.true_and, hvc, argsOf_get hql hkl] at h2
          have H2 := Lib.hid h2
          clear h2 e1 e2
          have HAI := Lib.hid (fun a ha => argTy_in (HW.out.ctor hql hkl) (i := (r : Int)) (by omega) (by omega) (a := a) ha)
          have HLA := Lib.hid (HW.out.ctor hql hkl).args
          have y0 : w5.cell? ⟨w.heap.size, 0, none⟩ = some (.int .i64 (q : Int)) := (KT5.out.cell 0).trans (by simp)
          have y1 : w5.cell? ⟨w.heap.size, 1, none⟩ = some (.int .i64 (r : Int)) := (KT5.out.cell 1).trans (by simp)
          have z0 : w5.cell? ⟨w.heap.size + 1, 0, none⟩ = some (.int .i64 v.c) := (KV5.out.cell 0).trans (by simp)
          have klt := KT5.out.lt
          have klt2 := KV5.out.lt
          have HVC := Lib.hid hvc
          clear hvc
          go_wp2_with fail
          rw [HVC.out]
          refine (impl_argTypes xs q k (r : Int) hql hkl w5 _ F HX5.out HF5.out HLA.out).mono ?_
          rintro e w6 ⟨v6, F6, rfl, hb6, ha6, -, hfs6⟩
          have KV6 := Lib.hid (KV5.out.same (hb6.block _ KV5.out.lt))
          have KG6 := Lib.hid (KG5.out.same (hb6.block _ KG5.out.lt))
          have HCG6 := Lib.hid (HCG5.out.step hb6)
          generalize hass : argsL xs[q].ctors[k] (r : Int) = ls at *
          clear hass
          obtain ⟨A6, cap6, rfl, hd3, hd4⟩ := ha6.form
          have HA6 : Hid (Arr w6 (TyR w6) ls (.slice A6 ls.length cap6) F6 ∧ Under w6.heap.size F6) := ⟨ha6, hfs6.under⟩
          have HN6 : Hid (∀ b ∈ F6, b ∉ [g]) := fun b hb h => by
            have h1 := (hfs6 b hb).1
            rw [List.mem_singleton.1 h] at h1
            have := KG5.out.lt
            omega
          clear ha6 hfs6 KT5 KV5 KG5 HCG5 HX5 HF5 HA5 HG5 y0 y1 z0 klt klt2 hB5 hb6
          have z2 : w6.cell? ⟨w.heap.size + 1, 2, none⟩ = some (.slice A4 v.ks.length cap4) := (KV6.out.cell 2).trans (by simp)
          have klt2 := KV6.out.lt
          by_cases hln : v.ks.length = ls.length
          · have t2 : ((ls.length : Int) != (v.ks.length : Int)) = false := by simp [hln]
            have h3 : fitsV xs (d + 1) ⟨(q : Int), (r : Int)⟩ v = zipAll (fitsV xs d) ls v.ks := by rw [H2.out, decide_eq_true hln, Bool.true_and]
            have H3 := Lib.hid h3
            have HLN := Lib.hid hln
            clear h3 hln
            go_wp2
            clear z2 klt2 t2
            go_loopw [90] (fun iv wr => ∃ i : Nat, ∃ ci : Int, i ≤ v.ks.length ∧ iv = .int .i64 i ∧ 0 ≤ ci ∧ ci ≤ 60 ∧ Hid (ci = c + 1 + (V.sizes (v.ks.take i) : Nat)) ∧ Hid (fitsV xs (d + 1) ⟨(q : Int), (r : Int)⟩ v = zipAll (fitsV xs d) (ls.drop i) (v.ks.drop i)) ∧ Hid (Blk wr g 3 #[.int .i64 ci]) ∧ Hid (Chg [g] w wr) ∧ Hid (Arr wr (TyR wr) ls (.slice A6 ls.length cap6) F6 ∧ Under wr.heap.size F6)) (fun iv _ => v.ks.length - (intOf iv).toNat)
            case atStart => exact ⟨0, c + 1, Nat.zero_le _, rfl, by omega, by omega, (by show c + 1 = c + 1 + ((0 : Nat) : Int); omega), H3, KG6, HCG6, HA6⟩
            case round =>
              clear KG6 HCG6 HA6 KV6
              obtain ⟨i, ci, hi, rfl, hci0, hci1, HCI, HR, KG, HCG, HA6⟩ := hrel
              by_cases hik : i < v.ks.length
              · have hil : i < ls.length := by rw [← HLN.out]; exact hik
                obtain ⟨b6, off6, rfl⟩ := HA6.out.1.ptr (by omega)
                have HAw := Lib.hid (ArrV.mono HA.out (HCG.out.kept HG.out (fun b hb h => HGG.out (by rw [← List.mem_singleton.1 h]; exact hb))))
                have HGw := Lib.hid (HG.out.mono HCG.out.size)
                have HXw := Lib.hid (ArrDt.mono HX.out (HCG.out.kept HF.out (fun b hb h => HGF.out (by rw [← List.mem_singleton.1 h]; exact hb))))
                have HFw := Lib.hid (HF.out.mono HCG.out.size)
                obtain ⟨b4, off4, rfl⟩ := HAw.out.ptr (by omega)
                obtain ⟨A7, cap7, G7, hb7, k0, k1, k2, HV7, HG7, hG7G, -, -⟩ := ArrV.at HAw.out HGw.out (Below.refl _ _) i hik
                have HN7 : Hid (g ∉ G7) := fun h => HGG.out (hG7G _ h)
                clear hG7G
                have g1 : (0 : Int) ≤ (i : Int) := by omega
                have g2 : (i : Int) < (ls.length : Int) := by omega
                have g3 : (i : Int) < (v.ks.length : Int) := by omega
                have hstep := HR.out
                rw [zipAll_step hil hik] at hstep
                have HST := Lib.hid hstep
                clear hstep
                have hwr : IntKind.i64.wrap ((deep : Int) + 1) = (deep : Int) + 1 := IntWalk.i64_in _ (by omega)
                obtain ⟨W7, hW7⟩ : ∃ W7, W7 = wr.alloc (.cells #[.int .i64 v.ks[i].c, .int .i64 v.ks[i].n, .slice A7 v.ks[i].ks.length cap7] 53) := ⟨_, rfl⟩
                have hb77 : Below wr.heap.size wr W7 := by rw [hW7]; exact (Below.refl _ _).alloc (Nat.le_refl _) _
                have KX : Hid (Blk W7 wr.heap.size 53 #[.int .i64 v.ks[i].c, .int .i64 v.ks[i].n, .slice A7 v.ks[i].ks.length cap7]) := by rw [hW7]; exact Blk.new _ _ _
                have KG7 := Lib.hid (KG.out.same (hb77.block _ KG.out.lt))
                have HCG7 := Lib.hid (HCG.out.step hb77)
                have HX7 := Lib.hid (ArrDt.below HXw.out hb77 HFw.out)
                have HF7 := Lib.hid (HFw.out.mono hb77.size)
                have HV77 := Lib.hid (HV7.out.below hb77 HG7.out)
                have HG77 := Lib.hid (HG7.out.mono hb77.size)
                have HA67 : Hid (Arr W7 (TyR W7) ls (.slice (some ⟨b6, off6, none⟩) ls.length cap6) F6 ∧ Under W7.heap.size F6) := ⟨ArrTy.below HA6.out.1 hb77 HA6.out.2, HA6.out.2.mono hb77.size⟩
                have hgw : g < wr.heap.size := KG.out.lt
                have hne7 : wr.heap.size ≠ g := by omega
                go_wp2_with fail
                rw [← hW7]
                clear hW7 k0 k1 k2 hb7 HAw HGw HXw HFw HV7 HG7 KG HCG HA6
                obtain ⟨hb6, a0, a1⟩ := ArrTy.at HA67.out.1 HA67.out.2 (Below.refl _ _) i hil
                have hb6n : b6 ≠ g := by
                  obtain ⟨b', off', cs', G', e', hb', -⟩ := HA67.out.1.get TyR_len hil
                  cases e'
                  exact fun e => HN6.out _ hb' (by rw [e]; exact List.mem_singleton.2 rfl)
                have k0 : W7.cell? ⟨wr.heap.size, 0, none⟩ = some (.int .i64 v.ks[i].c) := (KX.out.cell 0).trans (by simp)
                have k1 : W7.cell? ⟨wr.heap.size, 1, none⟩ = some (.int .i64 v.ks[i].n) := (KX.out.cell 1).trans (by simp)
                have k2 : W7.cell? ⟨wr.heap.size, 2, none⟩ = some (.slice A7 v.ks[i].ks.length cap7) := (KX.out.cell 2).trans (by simp)
                have kxl := KX.out.lt
                have HNE := Lib.hid (show b6 ∉ [g] from fun h => hb6n (List.mem_singleton.1 h))
                have HNE7 := Lib.hid (show wr.heap.size ∉ [g] from fun h => hne7 (List.mem_singleton.1 h))
                clear hb6n hne7 hgw
                have HCALL := Lib.hid (IH.out v.ks[i] (List.getElem_mem hik) xs HW.out d (deep + 1) (by omega) (by omega) ls[i] (HAI.out _ (List.getElem_mem hil)) W7.drew _ F _ G7 g ci (ArrDt.drew HX7.out) HF7.out HV77.out.drew HG77.out KG7.out HGF.out HN7.out hci0 hci1)
                rw [show ((deep + 1 : Nat) : Int) = (deep : Int) + 1 by omega] at HCALL
                go_region_held3 (fun w' => w'.cell? ⟨b6, off6 + i * 2, none⟩ = some (.int .i64 ls[i].d) ∧ w'.cell? ⟨b6, off6 + i * 2 + 1, none⟩ = some (.int .i64 ls[i].i) ∧ w'.cell? ⟨wr.heap.size, 0, none⟩ = some (.int .i64 v.ks[i].c) ∧ w'.cell? ⟨wr.heap.size, 1, none⟩ = some (.int .i64 v.ks[i].n) ∧ w'.cell? ⟨wr.heap.size, 2, none⟩ = some (.slice A7 v.ks[i].ks.length cap7)) (first | assumption | (exact ⟨a0, a1, k0, k1, k2⟩) | (exact ⟨(hC'.cell hb6 HNE.out).trans a0, (hC'.cell hb6 HNE.out).trans a1, (hC'.cell kxl HNE7.out).trans k0, (hC'.cell kxl HNE7.out).trans k1, (hC'.cell kxl HNE7.out).trans k2⟩)) (first | (go_at_call 121; ((with_reducible refine HCALL.out.mono ?_); rintro e w' ⟨c', rfl, hC', hK', hy', hp'⟩)))
                have hC2 := hC'.undrew
                have HCG8 := Lib.hid (HCG7.out.trans hC2)
                have HK8 := Lib.hid hK'
                have HA68 : Hid (Arr w' (TyR w') ls (.slice (some ⟨b6, off6, none⟩) ls.length cap6) F6 ∧ Under w'.heap.size F6) := ⟨ArrTy.mono HA67.out.1 (hC2.kept HA67.out.2 HN6.out), HA67.out.2.mono hC2.size⟩
                clear hwr hC' hC2 hK' a0 a1 k0 k1 k2
                cases e3 : scanB xs d ls[i] v.ks[i] ci with
                | false =>
                  have HFin := Lib.hid (HBad.out w' c' (by
                    unfold scanB at e3
                    rw [Bool.and_eq_false_iff] at e3
                    rcases e3 with h | h
                    · left; rw [HST.out, h]; rfl
                    · right
                      have h1 := of_decide_eq_false h
                      have h2 := HCI.out
                      have h3 := sizes_step hik
                      have h4 := sizes_take_le v.ks (i + 1)
                      have h5 := nodes_ks v
                      omega) HCG8.out HK8.out hp')
                  clear e3 hy'
                  go_wp2
                  go_ret
                  exact HFin.out
                | true =>
                  have hcc2 := hy' e3
                  unfold scanB at e3
                  rw [Bool.and_eq_true] at e3
                  have h60 := of_decide_eq_true e3.2
                  have hR2 : Hid (fitsV xs (d + 1) ⟨(q : Int), (r : Int)⟩ v = zipAll (fitsV xs d) (ls.drop (i + 1)) (v.ks.drop (i + 1))) := by rw [HST.out, e3.1, Bool.true_and]; rfl
                  have hCI2 : Hid (c' = c + 1 + (V.sizes (v.ks.take (i + 1)) : Nat)) := by
                    have h2 := HCI.out
                    have h3 := sizes_step hik
                    unfold Hid
                    omega
                  have hc60' : c' ≤ 60 := by omega
                  clear e3 hy' hcc2 h60
                  go_wp2
                  go_roundw
                  case rel => exact ⟨i + 1, c', by omega, by go_num, hp', hc60', hCI2, hR2, HK8, HCG8, HA68⟩
                  case measure => (simp [intOf] <;> omega)
              · have hT : scanB xs (d + 1) ⟨(q : Int), (r : Int)⟩ v c = true := by
                  unfold scanB
                  have h1 := HCI.out
                  have h5 := nodes_ks v
                  rw [List.take_of_length_le (by omega)] at h1
                  rw [HR.out, zipAll_end (by have := HLN.out; omega), Bool.true_and]
                  exact decide_eq_true (by omega)
                have hfin : ScanPost xs (d + 1) ⟨(q : Int), (r : Int)⟩ v c g w (.returned (.bool true)) wr := ⟨ci, by rw [hT], HCG.out, KG.out, fun _ => by
                  have h1 := HCI.out
                  have h5 := nodes_ks v
                  rw [List.take_of_length_le (by omega)] at h1
                  omega, hci0⟩
                have HFin := Lib.hid hfin
                clear hfin hT
                go_wp2
                go_ret
                exact HFin.out
          · have t2 : ((ls.length : Int) != (v.ks.length : Int)) = true := by rw [bne_iff_ne]; omega
            have HFin := Lib.hid (HBad.out w6 (c + 1) (.inl (by rw [H2.out, decide_eq_false hln]; rfl)) HCG6.out KG6.out (by omega))
            clear hln
            go_wp2
            go_ret
            exact HFin.out
theorem impl_valueScan : ∀ v, ScanI v := V.indv valueScan_of
end Go.Proofs.Ytilndhmegaccmaa

namespace Go.Proofs.Ytilndhmegaccmaa
open Go.RowKit

set_option maxRecDepth 100000 in
set_option maxHeartbeats 1600000 in
theorem spec_l2Is (xs : List Dt) (t : Ty) (v : V) (w : World) (x : Value) (F : List Nat) (cs : List Value) (G : List Nat) (hx : Arr w (DtR w) xs x F) (hf : Under w.heap.size F) (hv : VR w v cs G) (hg : Under w.heap.size G) (hw : WorldOK xs) (ht : TyIn xs.length t) (hz : v.size ≤ 1048576) :
    Calls Try.prog 85 #[x, .agg #[.int .i64 t.d, .int .i64 t.i], .agg cs.toArray] w fun e w' => e = .returned (.bool (valueOkB xs t v)) ∧ Below w.heap.size w w' := by
  obtain ⟨kv, rfl, ha⟩ := (VR_iff _ _ _).1 hv
  obtain ⟨A, cap, rfl, hc1, hc2⟩ := hx.form
  obtain ⟨A4, cap4, rfl, hc3, hc4⟩ := ha.form
  have HV := Lib.hid hv
  have HX := Lib.hid hx
  have HF := Lib.hid hf
  have HG := Lib.hid hg
  clear hx hf hg
  clear ha hv
  go_enter Try.func85, Try.ntmps85
  go_wp2_with fail
  obtain ⟨W2, hW2⟩ : ∃ W2, W2 = ((w.alloc (.cells #[.int .i64 t.d, .int .i64 t.i] 32)).alloc (.cells #[.int .i64 v.c, .int .i64 v.n, .slice A4 v.ks.length cap4] 53)) := ⟨_, rfl⟩
  have hB0 : Below w.heap.size w W2 := by rw [hW2]; exact ((Below.refl _ _).alloc (Nat.le_refl _) _).alloc (by simp) _
  have KT : Hid (Blk W2 w.heap.size 32 #[.int .i64 t.d, .int .i64 t.i]) := by rw [hW2]; exact (Blk.new w _ _).same (Below.heap_alloc _ _ _ (by simp))
  have KV : Hid (Blk W2 (w.heap.size + 1) 53 #[.int .i64 v.c, .int .i64 v.n, .slice A4 v.ks.length cap4]) := by rw [hW2]; have h := Blk.new (w.alloc (.cells #[.int .i64 t.d, .int .i64 t.i] 32)) 53 #[.int .i64 v.c, .int .i64 v.n, .slice A4 v.ks.length cap4]; rw [World.size_alloc] at h; exact h
  rw [← hW2]
  clear hW2
  refine (spec_l2Fits v xs hw 10 (Nat.le_refl _) t ht W2 _ F _ G (ArrDt.below HX.out hB0 HF.out) (HF.out.mono hB0.size) (HV.out.below hB0 HG.out) (HG.out.mono hB0.size)).mono ?_
  rintro e w3 ⟨rfl, hb3⟩
  have hB3 := hB0.trans (hb3.mono hB0.size)
  have KV3 := Lib.hid (KV.out.same (hb3.block _ KV.out.lt))
  have KT3 := Lib.hid (KT.out.same (hb3.block _ KT.out.lt))
  have y0 : w3.cell? ⟨w.heap.size, 0, none⟩ = some (.int .i64 t.d) := (KT3.out.cell 0).trans (by simp)
  have y1 : w3.cell? ⟨w.heap.size, 1, none⟩ = some (.int .i64 t.i) := (KT3.out.cell 1).trans (by simp)
  have z0 : w3.cell? ⟨w.heap.size + 1, 0, none⟩ = some (.int .i64 v.c) := (KV3.out.cell 0).trans (by simp)
  have z1 : w3.cell? ⟨w.heap.size + 1, 1, none⟩ = some (.int .i64 v.n) := (KV3.out.cell 1).trans (by simp)
  have z2 : w3.cell? ⟨w.heap.size + 1, 2, none⟩ = some (.slice A4 v.ks.length cap4) := (KV3.out.cell 2).trans (by simp)
  have klt := KT3.out.lt
  have klt2 := KV3.out.lt
  clear hb3 KT KV
  cases e1 : fitsV xs 10 t v with
  | false =>
    have hf : Hid (valueOkB xs t v = false) := by unfold Hid valueOkB; rw [e1]; rfl
    clear e1
    go_wp2
    go_ret
    exact ⟨ret_bool hf.out.symm, hB3⟩
  | true =>
    have hf : Hid (valueOkB xs t v = decide (nodes v ≤ 60)) := by unfold Hid valueOkB; rw [e1]; rfl
    clear e1
    go_wp2_with fail
    refine (spec_l2Count v 60 (by omega) (by omega) w3 _ G (HV.out.below hB3 HG.out) (HG.out.mono hB3.size) (by unfold nodes; omega)).mono ?_
    rintro e w4 ⟨c, rfl, hu, hb4⟩
    have hB4 := hB3.trans (hb4.mono hB3.size)
    have hcd : decide (c ≤ 60) = decide (nodes v ≤ 60) := by
      have h1 := hu.yes
      have h2 := hu.no
      by_cases h : nodes v ≤ 60
      · rw [decide_eq_true h]; exact decide_eq_true (by have := h1 (by omega); omega)
      · rw [decide_eq_false h]; exact decide_eq_false (by have := h2 (by omega); omega)
    have HCD := Lib.hid hcd
    clear hu hcd hb4
    go_wp2
    go_ret
    exact ⟨ret_bool (hf.out.trans HCD.out.symm).symm, hB4⟩

set_option maxRecDepth 100000 in
set_option maxHeartbeats 1600000 in
theorem impl_valueOk (xs : List Dt) (t : Ty) (v : V) (w : World) (x : Value) (F : List Nat) (cs : List Value) (G : List Nat) (hx : Arr w (DtR w) xs x F) (hf : Under w.heap.size F) (hv : VR w v cs G) (hg : Under w.heap.size G) (hw : WorldOK xs) (ht : TyIn xs.length t) (hz : v.size ≤ 1048576) :
    Calls Try.prog 75 #[x, .agg #[.int .i64 t.d, .int .i64 t.i], .agg cs.toArray] w fun e w' => e = .returned (.bool (valueOkB xs t v)) ∧ Below w.heap.size w w' := by
  obtain ⟨kv, rfl, ha⟩ := (VR_iff _ _ _).1 hv
  obtain ⟨A, cap, rfl, hc1, hc2⟩ := hx.form
  obtain ⟨A4, cap4, rfl, hc3, hc4⟩ := ha.form
  have HV := Lib.hid hv
  have HX := Lib.hid hx
  have HF := Lib.hid hf
  have HG := Lib.hid hg
  clear hx hf hg
  clear ha hv
  go_enter Try.func75, Try.ntmps75
  go_wp2_with fail
  obtain ⟨W2, hW2⟩ : ∃ W2, W2 = (((w.alloc (.cells #[.int .i64 t.d, .int .i64 t.i] 32)).alloc (.cells #[.int .i64 v.c, .int .i64 v.n, .slice A4 v.ks.length cap4] 53)).alloc (.cells #[.int .i64 0] 3)) := ⟨_, rfl⟩
  have hB0 : Below w.heap.size w W2 := by rw [hW2]; exact (((Below.refl _ _).alloc (Nat.le_refl _) _).alloc (by simp) _).alloc (by simp; omega) _
  have KG : Hid (Blk W2 (w.heap.size + 2) 3 #[.int .i64 0]) := by
    rw [hW2]
    have h := Blk.new ((w.alloc (.cells #[.int .i64 t.d, .int .i64 t.i] 32)).alloc (.cells #[.int .i64 v.c, .int .i64 v.n, .slice A4 v.ks.length cap4] 53)) 3 #[.int .i64 0]
    rw [show (((w.alloc (.cells #[.int .i64 t.d, .int .i64 t.i] 32)).alloc (.cells #[.int .i64 v.c, .int .i64 v.n, .slice A4 v.ks.length cap4] 53))).heap.size = w.heap.size + 2 from by simp] at h
    exact h
  rw [← hW2]
  clear hW2
  refine (impl_valueScan v xs hw 10 1 rfl (Nat.le_refl _) t ht W2 _ F _ G (w.heap.size + 2) 0 (ArrDt.below HX.out hB0 HF.out) (HF.out.mono hB0.size) (HV.out.below hB0 HG.out) (HG.out.mono hB0.size) KG.out (fun h => by have := HF.out _ h; omega) (fun h => by have := HG.out _ h; omega) (by omega) (by omega)).mono ?_
  rintro e w3 ⟨c', rfl, hC, -, -, -⟩
  have hB3 := hB0.trans (hC.below (B := w.heap.size) (fun b hb => by rw [List.mem_singleton.1 hb]; omega) hB0.size)
  have hf : Hid (valueOkB xs t v = scanB xs 10 t v 0) := by
    unfold Hid valueOkB scanB
    congr 1
    exact decide_eq_decide.2 (by omega)
  generalize hbb : scanB xs 10 t v 0 = bb at *
  clear hbb hC
  go_wp2
  go_ret
  exact ⟨ret_bool hf.out.symm, hB3⟩


set_option maxRecDepth 100000 in
set_option maxHeartbeats 1600000 in
theorem impl_ValueValid (xs : List Dt) (t : Ty) (v : V) (w : World) (x : Value) (F : List Nat) (cs : List Value) (G : List Nat) (hx : Arr w (DtR w) xs x F) (hf : Under w.heap.size F) (hv : VR w v cs G) (hg : Under w.heap.size G) (hz : v.size ≤ 1048576) :
    Calls Try.prog 29 #[x, .agg #[.int .i64 t.d, .int .i64 t.i], .agg cs.toArray] w fun e w' => e = .returned (.bool (valueValidB xs t v)) ∧ Below w.heap.size w w' := by
  obtain ⟨kv, rfl, ha⟩ := (VR_iff _ _ _).1 hv
  obtain ⟨A, cap, rfl, hc1, hc2⟩ := hx.form
  obtain ⟨A4, cap4, rfl, hc3, hc4⟩ := ha.form
  have HV := Lib.hid hv
  have HX := Lib.hid hx
  have HF := Lib.hid hf
  have HG := Lib.hid hg
  clear hx hf hg
  clear ha hv
  go_enter Try.func29, Try.ntmps29
  go_wp2_with fail
  obtain ⟨W2, hW2⟩ : ∃ W2, W2 = ((w.alloc (.cells #[.int .i64 t.d, .int .i64 t.i] 32)).alloc (.cells #[.int .i64 v.c, .int .i64 v.n, .slice A4 v.ks.length cap4] 53)) := ⟨_, rfl⟩
  have hB0 : Below w.heap.size w W2 := by rw [hW2]; exact ((Below.refl _ _).alloc (Nat.le_refl _) _).alloc (by simp) _
  have KT : Hid (Blk W2 w.heap.size 32 #[.int .i64 t.d, .int .i64 t.i]) := by rw [hW2]; exact (Blk.new w _ _).same (Below.heap_alloc _ _ _ (by simp))
  have KV : Hid (Blk W2 (w.heap.size + 1) 53 #[.int .i64 v.c, .int .i64 v.n, .slice A4 v.ks.length cap4]) := by rw [hW2]; have h := Blk.new (w.alloc (.cells #[.int .i64 t.d, .int .i64 t.i] 32)) 53 #[.int .i64 v.c, .int .i64 v.n, .slice A4 v.ks.length cap4]; rw [World.size_alloc] at h; exact h
  rw [← hW2]
  clear hW2
  have y0 : W2.cell? ⟨w.heap.size, 0, none⟩ = some (.int .i64 t.d) := (KT.out.cell 0).trans (by simp)
  refine (impl_TypeValid xs t W2 _ F (ArrDt.below HX.out hB0 HF.out) (HF.out.mono hB0.size)).mono ?_
  rintro e w3 ⟨rfl, hb3⟩
  have hB3 := hB0.trans (hb3.mono hB0.size)
  have KV3 := Lib.hid (KV.out.same (hb3.block _ KV.out.lt))
  have KT3 := Lib.hid (KT.out.same (hb3.block _ KT.out.lt))
  clear y0
  have y0 : w3.cell? ⟨w.heap.size, 0, none⟩ = some (.int .i64 t.d) := (KT3.out.cell 0).trans (by simp)
  have y1 : w3.cell? ⟨w.heap.size, 1, none⟩ = some (.int .i64 t.i) := (KT3.out.cell 1).trans (by simp)
  have z0 : w3.cell? ⟨w.heap.size + 1, 0, none⟩ = some (.int .i64 v.c) := (KV3.out.cell 0).trans (by simp)
  have z1 : w3.cell? ⟨w.heap.size + 1, 1, none⟩ = some (.int .i64 v.n) := (KV3.out.cell 1).trans (by simp)
  have z2 : w3.cell? ⟨w.heap.size + 1, 2, none⟩ = some (.slice A4 v.ks.length cap4) := (KV3.out.cell 2).trans (by simp)
  have klt := KT3.out.lt
  have klt2 := KV3.out.lt
  clear hb3 KT KV
  cases e1 : typeValidB xs t with
  | false =>
    have hf : Hid (valueValidB xs t v = false) := by unfold Hid valueValidB; rw [e1]; rfl
    clear e1
    go_wp2
    go_ret
    exact ⟨ret_bool hf.out.symm, hB3⟩
  | true =>
    have hf : Hid (valueValidB xs t v = valueOkB xs t v) := by unfold Hid valueValidB; rw [e1]; rfl
    obtain ⟨hw, hto⟩ := typeValid_split e1
    have HW := Lib.hid hw
    have HT := Lib.hid (typeOkB_tyIn hto)
    clear e1 hw hto
    go_wp2_with fail
    refine (impl_valueOk xs t v w3 _ F _ G (ArrDt.below HX.out hB3 HF.out) (HF.out.mono hB3.size) (HV.out.below hB3 HG.out) (HG.out.mono hB3.size) HW.out HT.out hz).mono ?_
    rintro e w4 ⟨rfl, hb4⟩
    have hB4 := hB3.trans (hb4.mono hB3.size)
    generalize hbb : valueOkB xs t v = bb
    have HBB := Lib.hid hbb
    clear hbb
    go_wp2
    go_ret
    exact ⟨ret_bool (hf.out.trans HBB.out).symm, hB4⟩
end Go.Proofs.Ytilndhmegaccmaa

namespace Go.Proofs.Ytilndhmegaccmaa
open Go.ChangeShapes Go.WideShapes Go.ChangeAt Go.RowKit

section
variable {H : Type} {enc : TypeId × Value → H} {P : Program} {w : World} {base : Nat} {spare : Nat → Bool} {held : Bool}

theorem cell_lt {w : World} {a : Addr} {v : Value} (h : w.cell? a = some v) : a.block < w.heap.size := by
  rcases Nat.lt_or_ge a.block w.heap.size with hl | hl
  · exact hl
  · unfold World.cell? at h
    rw [Array.getElem?_eq_none hl] at h
    cases h

theorem open_Arr {α : Type} (R : α → List Value → List Nat → Prop) {t e : TypeId} {k n fuel : Nat} {cs : List Value} {x : DataW H × List MemPlace} (ht : P.underlying t = some (.slice e)) (hk : P.cellsOf e = k) (hk0 : 0 < k) (hf : fuel = n + 1)
    (hR : ∀ ds y, DataW.trod enc P w base spare held n e ds = some y → ds.length = k → ∃ a F, R a ds F ∧ Under w.heap.size F)
    (h : DataW.trod enc P w base spare held fuel t cs = some x) : ∃ xs v F, cs = [v] ∧ Arr w R xs v F ∧ Under w.heap.size F := by
  subst hf
  rcases DataW.trod_slice ht h with ⟨rfl, -⟩ | ⟨a, len, cap, elems, rest, m, hm, rfl, -, -, hl, hmax, hlen, hel, -, -⟩
  · exact ⟨[], _, [], rfl, Arr.nil, Under.nil _⟩
  · obtain rfl : n = m := by omega
    by_cases h0 : len = 0
    · subst h0
      exact ⟨[], _, [], rfl, ⟨_, _, rfl, hl, hmax, .inl ⟨rfl, rfl⟩⟩, Under.nil _⟩
    · have get : ∀ i, i < len → ∃ ds y, (∀ j, j < k → w.cell? (a.add (i * k + j)) = ds[j]?) ∧ ds.length = k ∧ DataW.trod enc P w base spare held n e ds = some y := fun i hi => by
        have h1 := hel i hi
        rw [List.getElem?_eq_getElem (by omega), Option.bind_eq_some_iff] at h1
        obtain ⟨ds, h2, h3⟩ := h1
        obtain ⟨-, h4, h5⟩ := World.cells?_some h2
        rw [hk] at h4 h5
        refine ⟨ds, _, fun j hj => ?_, h4, h3⟩
        rw [← h5 j hj]
        congr 1
        unfold Addr.add
        by_cases e1 : i * k = 0 <;> by_cases e2 : j = 0 <;> simp [e1, e2, Nat.add_assoc]
      obtain ⟨b, off, spot⟩ := a
      obtain ⟨ds0, y0, g1, g2, -⟩ := get 0 (by omega)
      have hc0 : w.cell? ⟨b, off, spot⟩ = some (ds0[0]'(by omega)) := by
        have := g1 0 hk0
        simpa [Addr.add, List.getElem?_eq_getElem (show 0 < ds0.length by omega)] using this
      have hspot : spot = none := by simpa using World.cell?_spot hc0
      subst hspot
      have hb : b < w.heap.size := cell_lt hc0
      have key : ∀ m, m ≤ len → ∃ (xs : List α) (cs : List Value) (F : List Nat), xs.length = m ∧ cs.length = m * k ∧ CellsAt w b off cs ∧ Flat R xs cs F ∧ Under w.heap.size F := by
        intro m
        induction m with
        | zero => intro _; exact ⟨[], [], [], rfl, by simp, fun j u hj => by simp at hj, ⟨rfl, rfl⟩, Under.nil _⟩
        | succ m ih =>
          intro hm
          obtain ⟨xs, cs, F, h1, h2, h3, h4, h5⟩ := ih (by omega)
          obtain ⟨ds, y, g1, g2, g3⟩ := get m (by omega)
          obtain ⟨z, G, r1, r2⟩ := hR ds y g3 g2
          refine ⟨xs ++ [z], cs ++ ds, F ++ G, by simp [h1], by simp [h2, g2, Nat.add_mul], h3.append (fun j u hj => ?_), h4.append (Flat.one r1), fun c hc => ?_⟩
          · have hjk : j < k := by rw [← g2]; exact (List.getElem?_eq_some_iff.1 hj).1
            have := g1 j hjk
            rw [hj, Addr.add_lit] at this
            rw [h2, ← this]
            congr 2
            omega
          · rcases List.mem_append.1 hc with hc | hc
            · exact h5 c hc
            · exact r2 c hc
      obtain ⟨xs, cs, F, h1, h2, h3, h4, h5⟩ := key len (Nat.le_refl _)
      refine ⟨xs, _, b :: F, rfl, ⟨_, _, by rw [h1], by omega, hmax, .inr ⟨b, off, cs, F, rfl, h3, h4, rfl⟩⟩, fun c hc => ?_⟩
      rcases List.mem_cons.1 hc with rfl | hc
      · exact hb
      · exact h5 c hc

theorem one_field {fs : Array Field} {n : Nat} {cs : List Value} {xs : List (DataW H × List MemPlace)}
    (hf : ∀ (i : Nat) (f : Field), fs[i]? = some f → DataW.trod enc P w base spare held n f.type ((cs.drop f.offset).take (P.cellsOf f.type)) = xs[i]?)
    (hone : Deep.oneCellFields P fs = true) (hxl : xs.length = fs.size) (i : Nat) (f : Field) (hi : fs[i]? = some f) (c : Value) (hc : cs[i]? = some c) :
    ∃ y, DataW.trod enc P w base spare held n f.type [c] = some y := by
  obtain ⟨h1, h2⟩ := Deep.hone_of hone i f hi
  have h := hf i f hi
  have hlt : i < fs.size := (Array.getElem?_eq_some_iff.1 hi).1
  rw [List.getElem?_eq_getElem (show i < xs.length by omega), h1, h2] at h
  obtain ⟨hlc, hcc⟩ := List.getElem?_eq_some_iff.1 hc
  rw [List.drop_eq_getElem_cons hlc, hcc] at h
  exact ⟨_, h⟩

theorem sub_field {fs : Array Field} {n : Nat} {cs : List Value} {xs : List (DataW H × List MemPlace)}
    (hf : ∀ (i : Nat) (f : Field), fs[i]? = some f → DataW.trod enc P w base spare held n f.type ((cs.drop f.offset).take (P.cellsOf f.type)) = xs[i]?)
    (hxl : xs.length = fs.size) (i : Nat) (f : Field) (hi : fs[i]? = some f) (k off : Nat) (hk : P.cellsOf f.type = k) (ho : f.offset = off) :
    ∃ y, DataW.trod enc P w base spare held n f.type ((cs.drop off).take k) = some y := by
  have h := hf i f hi
  have hlt : i < fs.size := (Array.getElem?_eq_some_iff.1 hi).1
  rw [List.getElem?_eq_getElem (show i < xs.length by omega), hk, ho] at h
  exact ⟨_, h⟩

theorem open_slice_arg {α : Type} (R : α → List Value → List Nat → Prop) {t e : TypeId} {k : Nat} {r : Reach} {b0 : Nat} {v : Value} {d : DataW H} {ps : List MemPlace} (ht : P.underlying t = some (.slice e)) (hk : P.cellsOf e = k) (hk0 : 0 < k)
    (hR : ∀ n ds y, DataW.trod enc P w base spare held n e ds = some y → ∃ a F, R a ds F ∧ Under w.heap.size F)
    (hval : Value.okWide P w r b0 t v) (h : DataW.Trod enc P w base spare held t v d ps) : ∃ xs F, Arr w R xs v F ∧ Under w.heap.size F := by
  obtain ⟨a, len, cap, rfl⟩ := okWide_slice ht hval
  obtain ⟨fuel, hf⟩ := h
  cases fuel with
  | zero => simp [DataW.trod] at hf
  | succ n =>
    obtain ⟨xs, v, F, hv, ha, hF⟩ := open_Arr R ht hk hk0 rfl (fun ds y hd _ => hR n ds y hd) hf
    have : v = .slice a len cap := by simpa [Value.cells] using hv.symm
    subst this
    exact ⟨xs, F, ha, hF⟩
end
end Go.Proofs.Ytilndhmegaccmaa

namespace Go.Proofs.Ytilndhmegaccmaa
open Go.ChangeShapes Go.WideShapes Go.ChangeAt Go.RowKit
set_option maxRecDepth 100000

theorem cellsOf_u8 : Try.prog.cellsOf 5 = 1 := by kernel_rfl
theorem open_By_cells {H : Type} {enc : TypeId × Value → H} {w : World} {base : Nat} {spare : Nat → Bool} {held : Bool} (fuel : Nat) (cs : List Value) (x : DataW H × List MemPlace)
    (h : DataW.trod enc Try.prog w base spare held fuel 5 cs = some x) : ∃ v F, ByR w v cs F ∧ Under w.heap.size F := by
  cases fuel with
  | zero => simp [DataW.trod] at h
  | succ n =>
  obtain ⟨i0, e0, -, e2⟩ := DataW.trod_int Try.underlying5 h
  have hw : IntKind.u8.min ≤ i0 ∧ i0 ≤ IntKind.u8.max := by simpa [Lit.wf] using e2
  have h0 : IntKind.u8.min = 0 := rfl
  have h1 : IntKind.u8.max = 255 := rfl
  exact ⟨i0, [], ⟨e0, rfl, by omega, by omega⟩, Under.nil _⟩
theorem open_Bytes {H : Type} {enc : TypeId × Value → H} {w : World} {base : Nat} {spare : Nat → Bool} {held : Bool} {r : Reach} {b0 : Nat} {v : Value} {d : DataW H} {ps : List MemPlace} (hval : Value.okWide Try.prog w r b0 22 v)
    (h : DataW.Trod enc Try.prog w base spare held 22 v d ps) : ∃ (x : List Int) (F : List Nat), Arr w (ByR w) x v F ∧ Under w.heap.size F :=
  open_slice_arg (ByR w) Try.underlying22 cellsOf_u8 (by decide) (fun n ds y hd => open_By_cells n ds y hd) hval h
end Go.Proofs.Ytilndhmegaccmaa
