/-
  Lemmas and contracts of functions: Types of arguments in plain Lean: they are valid; what they keep of what the world says. Conditions: none. The parts of a valid value are valid values of the types of the arguments (plain). Conditions: none. l2Count of the reference. Conditions: no more than two million nodes. valueScan of the program, without holes. Conditions: the world is valid. ValueValid of both. Conditions: no more than a million nodes.
-/
import Derived.Test.YtgckkiencmickaaKAB
import Derived.Test.YtgckkiencmickaaKAC
import Derived.Deep.RegionWith
import Derived.Deep.RegionHeld3
import Derived.Deep.QuietTactic
import Derived.BigQuiet
import Derived.IntWalk

set_option linter.unusedVariables false
set_option linter.unusedSimpArgs false

namespace Go.Proofs.Ytgckkiencmickaa
open Go.RowKit

theorem argTy_ok {n : Int} {a : Ty} {r : Int} (h : argOkB n a = true) (h0 : 0 ≤ r) (h3 : r ≤ 3) : typeOkB n (argTy r a) = true := by
  unfold argOkB at h
  cases hi : (a.i == -1) with
  | true =>
    rw [argTy_yes hi]
    rw [beq_iff_eq] at hi
    split at h
    · rw [beq_iff_eq] at h; omega
    · rename_i hd
      rw [Bool.and_eq_true] at h
      unfold typeOkB
      rw [if_neg hd, h.1, Bool.true_and, withinB_iff]
      exact ⟨h0, h3⟩
  | false =>
    rw [argTy_no hi]
    rw [beq_eq_false_iff_ne] at hi
    unfold typeOkB
    split at h
    · rename_i hd
      rw [if_pos hd]; exact h
    · rename_i hd
      rw [Bool.and_eq_true, withinB_iff a.i] at h
      rw [if_neg hd, h.1, Bool.true_and, withinB_iff]
      omega
theorem resIdx_range {n : Nat} {c : Kt} (hc : KtOk n c) {i : Int} (h0 : 0 ≤ i) (h3 : i ≤ 3) : 0 ≤ resIdx c i ∧ resIdx c i ≤ 3 := by
  unfold resIdx
  split
  · exact ⟨h0, h3⟩
  · exact ⟨hc.lo, hc.hi⟩
theorem typeOkB_data {n : Int} {t : Ty} (h : typeOkB n t = true) (hd : ¬ t.d = -1) : 0 ≤ t.i ∧ t.i ≤ 3 := by
  unfold typeOkB at h
  rw [if_neg hd, Bool.and_eq_true] at h
  exact (withinB_iff _ _ _).1 h.2
/-- what a listed constructor is -/
theorem ctorsOfL_at {xs : List Dt} {t : Ty} {k : Int} (h : hasB (ctorsOfL xs t) k = true) : typeValidB xs t = true ∧ WorldOK xs ∧ ∃ (d m : Nat) (hd : d < xs.length) (hm : m < xs[d].ctors.length), t.d = (d : Int) ∧ k = (m : Int) ∧ argTypesL xs t k = argsL xs[d].ctors[m] t.i ∧ 0 ≤ t.i ∧ t.i ≤ 3 := by
  obtain ⟨e, hw, d, m, hd, h1, h2, hm⟩ := argTypesL_yes h
  have hv : typeValidB xs t = true := by
    rw [hasB_iff] at h
    unfold ctorsOfL at h
    split at h
    · assumption
    · cases h
  obtain ⟨-, hto⟩ := typeValid_split hv
  have hi := typeOkB_data hto (by omega)
  refine ⟨hv, hw, d, m, hd, hm, h1, h2, ?_, hi⟩
  obtain ⟨t1, t2⟩ := t
  simp only at h1
  subst h1 h2
  rw [e, argsOf_get hd hm]
theorem argTypesL_valid {xs : List Dt} {t : Ty} {k : Int} {a : Ty} (ha : a ∈ argTypesL xs t k) : typeValidB xs a = true := by
  cases h : hasB (ctorsOfL xs t) k with
  | false => rw [argTypesL_no h] at ha; cases ha
  | true =>
    obtain ⟨hv, hw, d, m, hd, hm, h1, h2, e, h0, h3⟩ := ctorsOfL_at h
    rw [e] at ha
    obtain ⟨b, hb, rfl⟩ := List.mem_map.1 ha
    have hr := resIdx_range (hw.ctor hd hm) h0 h3
    unfold typeValidB at hv ⊢
    rw [Bool.and_eq_true] at hv ⊢
    exact ⟨hv.1, argTy_ok ((hw.ctor hd hm).all b hb) hr.1 hr.2⟩
theorem argTy_d (r : Int) (a : Ty) : (argTy r a).d = a.d := by unfold argTy; split <;> rfl
theorem argTy_i {r : Int} {a : Ty} (h : 0 < a.i) : (argTy r a).i = a.i := by
  rw [argTy_no (by rw [beq_eq_false_iff_ne]; omega)]
end Go.Proofs.Ytgckkiencmickaa

namespace Go.Proofs.Ytgckkiencmickaa
open Go.RowKit

theorem zipAll_imp {f g : Ty → V → Bool} (h : ∀ a k, f a k = true → g a k = true) : ∀ {ls : List Ty} {ks : List V}, zipAll f ls ks = true → zipAll g ls ks = true
  | [], _, _ => by simp [zipAll]
  | _ :: _, [], _ => by simp [zipAll]
  | a :: ls, k :: ks, hz => by
    rw [zipAll, Bool.and_eq_true] at hz ⊢
    exact ⟨h a k hz.1, zipAll_imp h hz.2⟩
theorem zipAll_nth {f : Ty → V → Bool} : ∀ {ls : List Ty} {ks : List V}, zipAll f ls ks = true → ∀ (i : Nat) (h1 : i < ls.length) (h2 : i < ks.length), f ls[i] ks[i] = true
  | _ :: _, _ :: _, h, 0, _, _ => by rw [zipAll, Bool.and_eq_true] at h; exact h.1
  | _ :: ls, _ :: ks, h, i + 1, h1, h2 => by
    rw [zipAll, Bool.and_eq_true] at h
    exact zipAll_nth h.2 i (by simpa using h1) (by simpa using h2)
theorem fitsV_more (xs : List Dt) : ∀ (d : Nat) (t : Ty) (v : V), fitsV xs d t v = true → fitsV xs (d + 1) t v = true
  | 0, _, _, h => by cases h
  | d + 1, t, v, h => by
    by_cases ht : t.d = -1
    · rw [fitsV_int ht] at h ⊢; exact h
    · rw [fitsV_data ht] at h ⊢
      simp only [Bool.and_eq_true] at h ⊢
      exact ⟨h.1, h.2.1, h.2.2.1, zipAll_imp (fitsV_more xs d) h.2.2.2⟩
theorem nodes_kid (ks : List V) (i : Nat) (h : i < ks.length) : nodes ks[i] ≤ V.sizes ks := by
  have := V.size_lt ks i h
  unfold nodes
  omega
theorem value_parts {xs : List Dt} {t : Ty} {v : V} (h : valueValidB xs t v = true) (hd : ¬ t.d = -1) :
    (argTypesL xs t v.c).length = v.ks.length ∧ ∀ (i : Nat) (h1 : i < (argTypesL xs t v.c).length) (h2 : i < v.ks.length), valueValidB xs (argTypesL xs t v.c)[i] v.ks[i] = true := by
  unfold valueValidB at h
  rw [Bool.and_eq_true] at h
  obtain ⟨hv, ho⟩ := h
  unfold valueOkB at ho
  rw [Bool.and_eq_true, decide_eq_true_iff] at ho
  obtain ⟨hf, hn⟩ := ho
  rw [fitsV_data hd] at hf
  simp only [Bool.and_eq_true, decide_eq_true_iff] at hf
  obtain ⟨-, hk, hl, hz⟩ := hf
  have hk2 : hasB (ctorsOfL xs t) v.c = true := by
    unfold ctorsOfL
    rw [if_pos hv]
    exact hk
  have e : argTypesL xs t v.c = argsOf xs t v.c := if_pos hk2
  refine ⟨by rw [e, hl], fun i h1 h2 => ?_⟩
  have ha := argTypesL_valid (List.getElem_mem h1)
  unfold valueValidB valueOkB
  rw [ha, Bool.true_and, Bool.and_eq_true, decide_eq_true_iff]
  refine ⟨fitsV_more _ _ _ _ ?_, ?_⟩
  · have := zipAll_nth hz i (by rw [← e]; exact h1) h2
    simp only [e]
    exact this
  · have h3 := nodes_kid v.ks i h2
    have h4 := nodes_ks v
    omega
theorem argTypes_len3 (xs : List Dt) (t : Ty) (k : Int) : (argTypesL xs t k).length ≤ 3 := argTypesL_len xs t k
end Go.Proofs.Ytgckkiencmickaa

namespace Go.Proofs.Ytgckkiencmickaa
open Go.RowKit

/-- a count of nodes that stops beyond a number -/
structure Upto (v : V) (most : Int) (c : Int) : Prop where
  lo : 1 ≤ c
  hi : c ≤ nodes v
  yes : (nodes v : Int) ≤ most → c = nodes v
  no : most < nodes v → most < c
def CountPost (v : V) (most : Int) (w : World) (e : Ending) (w' : World) : Prop := ∃ c : Int, e = .returned (.int .i64 c) ∧ Upto v most c ∧ Below w.heap.size w w'
/-- contract of l2Count at one value -/
def CountS (v : V) : Prop := ∀ (most : Int) (_ : 0 ≤ most) (_ : most ≤ 1000) (w : World) (cs : List Value) (G : List Nat), VR w v cs G → Under w.heap.size G → nodes v ≤ 2000000 →
  Calls Try.prog 100 #[.agg cs.toArray, .int .i64 most] w (CountPost v most w)

set_option maxRecDepth 100000 in
set_option maxHeartbeats 1600000 in
theorem l2Count_of (v : V) (ih : ∀ k ∈ v.ks, CountS k) : CountS v := by
  intro most hm0 hm1 w cs G hv hg hz
  obtain ⟨kv, rfl, ha⟩ := (VR_iff _ _ _).1 hv
  obtain ⟨A4, cap4, rfl, hc3, hc4⟩ := ha.form
  have IH := Lib.hid ih
  have HZ := Lib.hid hz
  have HA := Lib.hid ha
  have HG := Lib.hid hg
  clear ha hg
  clear ih hv hz
  have hkl : v.ks.length ≤ 2000000 := by have := HZ.out; rw [nodes_ks, V.sizes_eq] at this; omega
  go_enter Try.func100, Try.ntmps100
  go_wp2
  have hB0 : Below w.heap.size w (w.alloc (.cells #[.int .i64 v.c, .int .i64 v.n, .slice A4 v.ks.length cap4] 25)) := (Below.refl _ _).alloc (Nat.le_refl _) _
  have K0 : Hid (Blk (w.alloc (.cells #[.int .i64 v.c, .int .i64 v.n, .slice A4 v.ks.length cap4] 25)) w.heap.size 25 #[.int .i64 v.c, .int .i64 v.n, .slice A4 v.ks.length cap4]) := Blk.new _ _ _
  go_loopw [5, 6] (fun nv iv wr => ∃ i : Nat, ∃ n : Int, i ≤ v.ks.length ∧ iv = .int .i64 i ∧ nv = .int .i64 n ∧ 1 ≤ n ∧ n ≤ 2000000 ∧ Hid (n ≤ 1 + (V.sizes (v.ks.take i) : Nat) ∧ (1 + ((V.sizes (v.ks.take i) : Nat) : Int) ≤ most → n = 1 + (V.sizes (v.ks.take i) : Nat)) ∧ (most < 1 + ((V.sizes (v.ks.take i) : Nat) : Int) → most < n)) ∧ Hid (Blk wr w.heap.size 25 #[.int .i64 v.c, .int .i64 v.n, .slice A4 v.ks.length cap4]) ∧ Below w.heap.size w wr) (fun _ iv _ => v.ks.length - (intOf iv).toNat)
  case atStart => exact ⟨0, 1, Nat.zero_le _, rfl, rfl, by omega, by omega, ⟨by simp [V.sizes], fun _ => by simp [V.sizes], fun h => by simpa [V.sizes] using h⟩, K0, hB0⟩
  case round =>
    clear hB0 K0
    obtain ⟨i, n, hi, rfl, rfl, hn1, hn2, HN, KV, hB⟩ := hrel
    have z2 : wr.cell? ⟨w.heap.size, 2, none⟩ = some (.slice A4 v.ks.length cap4) := (KV.out.cell 2).trans (by simp)
    have klt := KV.out.lt
    have hend : (¬ (i < v.ks.length ∧ n ≤ most)) → CountPost v most w (.returned (.int .i64 n)) wr := fun h => by
      have h1 := HN.out
      have h2 := sizes_take_le v.ks i
      have h3 := nodes_ks v
      refine ⟨n, rfl, ⟨hn1, by omega, fun hy => ?_, fun hno => ?_⟩, hB⟩
      · by_cases hil : i < v.ks.length
        · have : ¬ n ≤ most := fun hnm => h ⟨hil, hnm⟩
          have := h1.2.1 (by omega)
          omega
        · rw [List.take_of_length_le (by omega)] at h1
          have := h1.2.1 (by omega)
          omega
      · by_cases hil : i < v.ks.length
        · have : ¬ n ≤ most := fun hnm => h ⟨hil, hnm⟩
          omega
        · rw [List.take_of_length_le (by omega)] at h1
          exact h1.2.2 (by omega)
    have HEnd := Lib.hid hend
    clear hend
    by_cases hil : i < v.ks.length
    · have t1 : decide ((i : Int) < (v.ks.length : Int)) = true := by simp; omega
      by_cases hnm : n ≤ most
      · have t2 : decide (n ≤ most) = true := by simpa using hnm
        obtain ⟨b4, off4, rfl⟩ := HA.out.ptr (by omega)
        obtain ⟨A7, cap7, G7, hb7, k0, k1, k2, HV7, HG7, -, -, -⟩ := ArrV.at HA.out HG.out hB i hil
        have g1 : (0 : Int) ≤ (i : Int) := by omega
        have g2 : (i : Int) < (v.ks.length : Int) := by omega
        have hst := sizes_step hil
        have hsl := sizes_take_le v.ks (i + 1)
        have hnk := nodes_ks v
        have hz := HZ.out
        have hkz : nodes v.ks[i] ≤ 2000000 := by omega
        have HKZ := Lib.hid hkz
        have HST := Lib.hid (And.intro hst (And.intro hsl hnk))
        clear hst hsl hnk hz hkz
        go_wp2_with fail
        refine (IH.out v.ks[i] (List.getElem_mem hil) (most - n) (by omega) (by omega) wr _ G7 (HV7.out.below hB HG7.out) (HG7.out.mono hB.size) HKZ.out).mono ?_
        rintro e w' ⟨c, rfl, hu, hB'⟩
        have hB3 := hB.trans (hB'.mono hB.size)
        have KV3 := Lib.hid (KV.out.same (hB'.block _ KV.out.lt))
        have hc1 := hu.lo
        have hN2 : Hid (n + c ≤ 1 + (V.sizes (v.ks.take (i + 1)) : Nat) ∧ (1 + ((V.sizes (v.ks.take (i + 1)) : Nat) : Int) ≤ most → n + c = 1 + (V.sizes (v.ks.take (i + 1)) : Nat)) ∧ (most < 1 + ((V.sizes (v.ks.take (i + 1)) : Nat) : Int) → most < n + c)) := by
          have h1 := HN.out
          obtain ⟨h2, h3, h4⟩ := HST.out
          have h5 := hu.hi
          have h6 := hu.yes
          have h7 := hu.no
          have h8 : n = 1 + ((V.sizes (v.ks.take i) : Nat) : Int) := by
            rcases Int.lt_or_le most (1 + ((V.sizes (v.ks.take i) : Nat) : Int)) with h | h
            · have := h1.2.2 h; omega
            · exact h1.2.1 h
          refine ⟨by omega, fun hy => ?_, fun hno => ?_⟩
          · have := h6 (by omega); omega
          · have := h7 (by omega); omega
        have hn3 : n + c ≤ 2000000 := by
          have h1 := hN2.out.1
          obtain ⟨h2, h3, h4⟩ := HST.out
          have := HZ.out
          omega
        clear hu t1 t2 z2 klt k0 k1 k2 hB'
        go_wp2
        go_roundw
        case rel => exact ⟨i + 1, n + c, by omega, by go_num, rfl, by omega, hn3, hN2, KV3, hB3⟩
        case measure => (simp [intOf] <;> omega)
      · have t2 : decide (n ≤ most) = false := by simpa using hnm
        have HFin := Lib.hid (HEnd.out (fun h => hnm h.2))
        go_wp2
        go_ret
        exact HFin.out
    · have t1 : decide ((i : Int) < (v.ks.length : Int)) = false := by simp; omega
      have HFin := Lib.hid (HEnd.out (fun h => hil h.1))
      go_wp2
      go_ret
      exact HFin.out
theorem spec_l2Count : ∀ v, CountS v := V.indv l2Count_of
end Go.Proofs.Ytgckkiencmickaa

namespace Go.Proofs.Ytgckkiencmickaa
open Go.RowKit

def scanB (xs : List Dt) (d : Nat) (t : Ty) (v : V) (c : Int) : Bool := fitsV xs d t v && decide (c + nodes v ≤ 60)
/-- what valueScan gives: whether the value fits and the count stays within 60, and then the count -/
def ScanPost (xs : List Dt) (d : Nat) (t : Ty) (v : V) (c : Int) (g : Nat) (w : World) (e : Ending) (w' : World) : Prop :=
  ∃ c' : Int, e = .returned (.bool (scanB xs d t v c)) ∧ Chg [g] w w' ∧ Blk w' g 3 #[.int .i64 c'] ∧ (scanB xs d t v c = true → c' = c + nodes v) ∧ 0 ≤ c'
/-- contract of valueScan at one value -/
def ScanI (v : V) : Prop := ∀ (xs : List Dt) (_ : WorldOK xs) (d deep : Nat) (_ : d + deep = 11) (_ : 1 ≤ deep) (t : Ty) (_ : TyIn xs.length t) (w : World) (x : Value) (F : List Nat) (cs : List Value) (G : List Nat) (g : Nat) (c : Int), Arr w (DtR w) xs x F → Under w.heap.size F → VR w v cs G → Under w.heap.size G →
  Blk w g 3 #[.int .i64 c] → g ∉ F → g ∉ G → 0 ≤ c → c ≤ 60 →
  Calls Try.prog 96 #[x, .agg #[.int .i64 t.d, .int .i64 t.i], .agg cs.toArray, .int .i64 (deep : Int), .bool false, .pointer (some ⟨g, 0, none⟩)] w (ScanPost xs d t v c g w)
theorem isNum_nodes {v : V} (h : isNum v = true) : nodes v = 1 := by
  unfold isNum at h
  simp only [Bool.and_eq_true, decide_eq_true_eq] at h
  rw [nodes_ks, List.length_eq_zero_iff.1 h.2.2]; rfl

set_option maxRecDepth 100000 in
set_option maxHeartbeats 1600000 in
theorem valueScan_of (v : V) (ih : ∀ k ∈ v.ks, ScanI k) : ScanI v := by
  intro xs hw d deep hdd hdp t ht w x F cs G g c hx hf hv hg hgb hgF hgG hc0 hc60
  obtain ⟨kv, rfl, ha⟩ := (VR_iff _ _ _).1 hv
  obtain ⟨A, cap, rfl, hc1, hc2⟩ := hx.form
  obtain ⟨A4, cap4, rfl, hc3, hc4⟩ := ha.form
  have HW := Lib.hid hw
  have IH := Lib.hid ih
  have HGF := Lib.hid hgF
  have HGG := Lib.hid hgG
  have hgl := hgb.lt
  have gx : w.cell? ⟨g, 0, none⟩ = some (.int .i64 c) := (hgb.cell 0).trans (by simp)
  have gf := hgb.frozen 0
  have HGB := Lib.hid hgb
  have HNP : Hid (1 ≤ nodes v) := by unfold nodes; exact Nat.le_add_right _ _
  have HX := Lib.hid hx
  have HF := Lib.hid hf
  have HA := Lib.hid ha
  have HG := Lib.hid hg
  clear hx hf ha hg
  clear hw ih hv hgF hgG hgb
  by_cases hcc : 60 < c + 1
  · have t9 : decide (c + 1 > 60) = true := by simpa using hcc
    have HT : Hid (scanB xs d t v c = false) := by
      have := HNP.out
      unfold Hid scanB; rw [decide_eq_false (by omega), Bool.and_false]
    have KG : Hid (Blk (((w.setCell ⟨g, 0, none⟩ (.int .i64 (c + 1))).alloc (.cells #[.int .i64 t.d, .int .i64 t.i] 36)).alloc (.cells #[.int .i64 v.c, .int .i64 v.n, .slice A4 v.ks.length cap4] 25)) g 3 #[.int .i64 (c + 1)]) := by
      have h1 : Blk (w.setCell ⟨g, 0, none⟩ (.int .i64 (c + 1))) g 3 #[.int .i64 (c + 1)] := HGB.out.set_ 0 (.int .i64 (c + 1))
      exact (h1.same (Below.heap_alloc _ _ _ h1.lt)).same (Below.heap_alloc _ _ _ (by have := h1.lt; simp; omega))
    have HCG : Hid (Chg [g] w (((w.setCell ⟨g, 0, none⟩ (.int .i64 (c + 1))).alloc (.cells #[.int .i64 t.d, .int .i64 t.i] 36)).alloc (.cells #[.int .i64 v.c, .int .i64 v.n, .slice A4 v.ks.length cap4] 25))) := (((Chg.refl [g] w).set (by simp)).step ((Below.refl _ _).alloc (Nat.le_refl _) _)).step ((Below.refl _ _).alloc (Nat.le_refl _) _)
    have hfin : ScanPost xs d t v c g w (.returned (.bool false)) (((w.setCell ⟨g, 0, none⟩ (.int .i64 (c + 1))).alloc (.cells #[.int .i64 t.d, .int .i64 t.i] 36)).alloc (.cells #[.int .i64 v.c, .int .i64 v.n, .slice A4 v.ks.length cap4] 25)) := ⟨c + 1, by rw [HT.out], HCG.out, KG.out, (fun h => by rw [HT.out] at h; cases h), by omega⟩
    have HFin := Lib.hid hfin
    clear hfin
    go_enter Try.func96, Try.ntmps96
    go_wp2
    go_ret
    exact HFin.out
  · have t9 : decide (c + 1 > 60) = false := by simp; omega
    cases d with
    | zero =>
      have t8 : decide ((deep : Int) > 10) = true := by simp; omega
      have HT : Hid (scanB xs 0 t v c = false) := rfl
      have KG : Hid (Blk (((w.setCell ⟨g, 0, none⟩ (.int .i64 (c + 1))).alloc (.cells #[.int .i64 t.d, .int .i64 t.i] 36)).alloc (.cells #[.int .i64 v.c, .int .i64 v.n, .slice A4 v.ks.length cap4] 25)) g 3 #[.int .i64 (c + 1)]) := by
        have h1 : Blk (w.setCell ⟨g, 0, none⟩ (.int .i64 (c + 1))) g 3 #[.int .i64 (c + 1)] := HGB.out.set_ 0 (.int .i64 (c + 1))
        exact (h1.same (Below.heap_alloc _ _ _ h1.lt)).same (Below.heap_alloc _ _ _ (by have := h1.lt; simp; omega))
      have HCG : Hid (Chg [g] w (((w.setCell ⟨g, 0, none⟩ (.int .i64 (c + 1))).alloc (.cells #[.int .i64 t.d, .int .i64 t.i] 36)).alloc (.cells #[.int .i64 v.c, .int .i64 v.n, .slice A4 v.ks.length cap4] 25))) := (((Chg.refl [g] w).set (by simp)).step ((Below.refl _ _).alloc (Nat.le_refl _) _)).step ((Below.refl _ _).alloc (Nat.le_refl _) _)
      have hfin : ScanPost xs 0 t v c g w (.returned (.bool false)) (((w.setCell ⟨g, 0, none⟩ (.int .i64 (c + 1))).alloc (.cells #[.int .i64 t.d, .int .i64 t.i] 36)).alloc (.cells #[.int .i64 v.c, .int .i64 v.n, .slice A4 v.ks.length cap4] 25)) := ⟨c + 1, by rw [HT.out], HCG.out, KG.out, (fun h => by rw [HT.out] at h; cases h), by omega⟩
      have HFin := Lib.hid hfin
      clear hfin
      go_enter Try.func96, Try.ntmps96
      go_wp2
      go_ret
      exact HFin.out
    | succ d =>
    have t8 : decide ((deep : Int) > 10) = false := by simp; omega
    obtain ⟨W3, hW3⟩ : ∃ W3, W3 = (((w.setCell ⟨g, 0, none⟩ (.int .i64 (c + 1))).alloc (.cells #[.int .i64 t.d, .int .i64 t.i] 36)).alloc (.cells #[.int .i64 v.c, .int .i64 v.n, .slice A4 v.ks.length cap4] 25)) := ⟨_, rfl⟩
    have KT : Hid (Blk W3 w.heap.size 36 #[.int .i64 t.d, .int .i64 t.i]) := by
      rw [hW3]
      have h := Blk.new (w.setCell ⟨g, 0, none⟩ (.int .i64 (c + 1))) 36 #[.int .i64 t.d, .int .i64 t.i]
      rw [show ((w.setCell ⟨g, 0, none⟩ (.int .i64 (c + 1)))).heap.size = w.heap.size from by simp [World.setCell]] at h
      exact h.same (Below.heap_alloc _ _ _ (by simp [World.setCell]))
    have KV : Hid (Blk W3 (w.heap.size + 1) 25 #[.int .i64 v.c, .int .i64 v.n, .slice A4 v.ks.length cap4]) := by
      rw [hW3]
      have h := Blk.new ((w.setCell ⟨g, 0, none⟩ (.int .i64 (c + 1))).alloc (.cells #[.int .i64 t.d, .int .i64 t.i] 36)) 25 #[.int .i64 v.c, .int .i64 v.n, .slice A4 v.ks.length cap4]
      rw [World.size_alloc, show ((w.setCell ⟨g, 0, none⟩ (.int .i64 (c + 1)))).heap.size = w.heap.size from by simp [World.setCell]] at h
      exact h
    have KG : Hid (Blk W3 g 3 #[.int .i64 (c + 1)]) := by
      rw [hW3]
      have h1 : Blk (w.setCell ⟨g, 0, none⟩ (.int .i64 (c + 1))) g 3 #[.int .i64 (c + 1)] := HGB.out.set_ 0 (.int .i64 (c + 1))
      exact (h1.same (Below.heap_alloc _ _ _ h1.lt)).same (Below.heap_alloc _ _ _ (by have := h1.lt; simp; omega))
    have HCG : Hid (Chg [g] w W3) := by
      rw [hW3]; exact (((Chg.refl [g] w).set (by simp)).step ((Below.refl _ _).alloc (Nat.le_refl _) _)).step ((Below.refl _ _).alloc (Nat.le_refl _) _)
    have HX3 : Hid (Arr W3 (DtR W3) xs (.slice A xs.length cap) F) := ArrDt.mono HX.out (HCG.out.kept HF.out (fun b hb h => HGF.out (by rw [← List.mem_singleton.1 h]; exact hb)))
    have HF3 := Lib.hid (HF.out.mono HCG.out.size)
    have HA3 : Hid (Arr W3 (VR W3) v.ks (.slice A4 v.ks.length cap4) G) := ArrV.mono HA.out (HCG.out.kept HG.out (fun b hb h => HGG.out (by rw [← List.mem_singleton.1 h]; exact hb)))
    have HG3 := Lib.hid (HG.out.mono HCG.out.size)
    have y0 : W3.cell? ⟨w.heap.size, 0, none⟩ = some (.int .i64 t.d) := (KT.out.cell 0).trans (by simp)
    have y1 : W3.cell? ⟨w.heap.size, 1, none⟩ = some (.int .i64 t.i) := (KT.out.cell 1).trans (by simp)
    have z0 : W3.cell? ⟨w.heap.size + 1, 0, none⟩ = some (.int .i64 v.c) := (KV.out.cell 0).trans (by simp)
    have z1 : W3.cell? ⟨w.heap.size + 1, 1, none⟩ = some (.int .i64 v.n) := (KV.out.cell 1).trans (by simp)
    have z2 : W3.cell? ⟨w.heap.size + 1, 2, none⟩ = some (.slice A4 v.ks.length cap4) := (KV.out.cell 2).trans (by simp)
    have klt := KT.out.lt
    have klt2 := KV.out.lt
    have hgl3 := KG.out.lt
    rcases ht with ht | ⟨q, r, rfl, hql, hrl⟩
    · have t0 : (t.d == -1) = true := by simp [ht]
      have hfi := fitsV_int (xs := xs) (d := d) (v := v) ht
      have hEnd : ∀ r : Bool, isNum v = r → ScanPost xs (d + 1) t v c g w (.returned (.bool r)) W3 := fun r hr => by
        have hT : scanB xs (d + 1) t v c = r := by
          unfold scanB
          rw [hfi, hr]
          cases r with
          | false => rfl
          | true => rw [isNum_nodes hr, Bool.true_and]; exact decide_eq_true (by omega)
        exact ⟨c + 1, by rw [hT], HCG.out, KG.out, (fun h => by rw [hT] at h; rw [isNum_nodes (hr.trans h)]; rfl), by omega⟩
      have HEnd := Lib.hid hEnd
      clear hEnd hfi ht
      cases q0 : (v.c == -1) with
      | false =>
        have HFin := Lib.hid (HEnd.out false (by unfold isNum; rw [q0]; rfl))
        go_enter Try.func96, Try.ntmps96
        go_wp2_with fail
        rw [← hW3]
        clear hW3
        go_wp2
        go_ret
        exact HFin.out
      | true =>
        cases q1 : withinB v.n 0 9 with
        | false =>
          have HFin := Lib.hid (HEnd.out false (by unfold isNum; rw [q0, q1]; rfl))
          have HQ1 := Lib.hid q1
          clear q1
          go_enter Try.func96, Try.ntmps96
          go_wp2_with fail
          rw [← hW3]
          clear hW3
          refine (impl_within v.n 0 9 W3).mono ?_
          rintro e w5 ⟨rfl, rfl⟩
          rw [HQ1.out]
          go_wp2
          go_ret
          exact HFin.out
        | true =>
          by_cases q2 : v.ks.length = 0
          · have HFin := Lib.hid (HEnd.out true (by unfold isNum; rw [q0, q1, decide_eq_true q2]; rfl))
            have t3 : ((v.ks.length : Int) == 0) = true := by simp [q2]
            have HQ1 := Lib.hid q1
            clear q1 q2
            go_enter Try.func96, Try.ntmps96
            go_wp2_with fail
            rw [← hW3]
            clear hW3
            refine (impl_within v.n 0 9 W3).mono ?_
            rintro e w5 ⟨rfl, rfl⟩
            rw [HQ1.out]
            go_wp2
            go_ret
            exact HFin.out
          · have HFin := Lib.hid (HEnd.out false (by unfold isNum; rw [q0, q1, decide_eq_false q2]; rfl))
            have t3 : ((v.ks.length : Int) == 0) = false := by simp; simpa using q2
            have HQ1 := Lib.hid q1
            clear q1 q2
            go_enter Try.func96, Try.ntmps96
            go_wp2_with fail
            rw [← hW3]
            clear hW3
            refine (impl_within v.n 0 9 W3).mono ?_
            rintro e w5 ⟨rfl, rfl⟩
            rw [HQ1.out]
            go_wp2
            go_ret
            exact HFin.out
    · have t0 : ((q : Int) == -1) = false := by rw [beq_eq_false_iff_ne]; omega
      have hfd := fitsV_data (xs := xs) (d := d) (v := v) (t := ⟨(q : Int), (r : Int)⟩) (by show ¬ ((q : Int) = -1); omega)
      have HFD := Lib.hid hfd
      clear hfd
      have HBad : Hid (∀ W c', fitsV xs (d + 1) ⟨(q : Int), (r : Int)⟩ v = false ∨ (60 : Int) < c + nodes v → Chg [g] w W → Blk W g 3 #[.int .i64 c'] → 0 ≤ c' → ScanPost xs (d + 1) ⟨(q : Int), (r : Int)⟩ v c g w (.returned (.bool false)) W) := fun W c' h hC hK hc' => by
        have hT : scanB xs (d + 1) ⟨(q : Int), (r : Int)⟩ v c = false := by
          unfold scanB
          rcases h with h | h
          · rw [h]; rfl
          · rw [decide_eq_false (by omega), Bool.and_false]
        exact ⟨c', by rw [hT], hC, hK, (fun h => by rw [hT] at h; cases h), hc'⟩
      go_enter Try.func96, Try.ntmps96
      go_wp2_with fail
      rw [← hW3]
      clear hW3
      cases q0 : (v.n == 0) with
      | false =>
        have t1 : (v.n != 0) = true := by rw [bne, q0]; rfl
        have HFin : Hid (∀ n, ScanPost xs (d + 1) ⟨(q : Int), (r : Int)⟩ v c g w (.returned (.bool false)) (W3.drewN n)) := fun n => HBad.out _ (c + 1) (.inl (by rw [HFD.out, q0]; rfl)) (HCG.out.drewN n) KG.out (by omega)
        clear q0
        go_quiet (fail)
        go_wp2
        go_ret
        exact HFin.out _
      | true =>
        have t1 : (v.n != 0) = false := by rw [bne, q0]; rfl
        have h1 : fitsV xs (d + 1) ⟨(q : Int), (r : Int)⟩ v = (hasB (ctorsL xs ⟨(q : Int), (r : Int)⟩) v.c && (decide (v.ks.length = (argsOf xs ⟨(q : Int), (r : Int)⟩ v.c).length) && zipAll (fitsV xs d) (argsOf xs ⟨(q : Int), (r : Int)⟩ v.c) v.ks)) := by rw [HFD.out, q0, Bool.true_and]
        have H1 := Lib.hid h1
        have HIW : Hid (InWorld xs.length ⟨(q : Int), (r : Int)⟩) := .inr ⟨q, rfl, hql⟩
        clear h1 q0
        have hBr := Below.refl W3.heap.size W3
        have hkeep : ∀ U U' : World, (U.cell? ⟨w.heap.size, 0, none⟩ = some (.int .i64 (q : Int)) ∧ U.cell? ⟨w.heap.size, 1, none⟩ = some (.int .i64 (r : Int)) ∧ U.cell? ⟨w.heap.size + 1, 0, none⟩ = some (.int .i64 v.c) ∧ U.cell? ⟨w.heap.size + 1, 1, none⟩ = some (.int .i64 v.n) ∧ U.cell? ⟨w.heap.size + 1, 2, none⟩ = some (.slice A4 v.ks.length cap4)) → Below U.heap.size U U' → W3.heap.size ≤ U.heap.size → (U'.cell? ⟨w.heap.size, 0, none⟩ = some (.int .i64 (q : Int)) ∧ U'.cell? ⟨w.heap.size, 1, none⟩ = some (.int .i64 (r : Int)) ∧ U'.cell? ⟨w.heap.size + 1, 0, none⟩ = some (.int .i64 v.c) ∧ U'.cell? ⟨w.heap.size + 1, 1, none⟩ = some (.int .i64 v.n) ∧ U'.cell? ⟨w.heap.size + 1, 2, none⟩ = some (.slice A4 v.ks.length cap4)) := fun U U' h hUU hU => ⟨(hUU.cell (Nat.lt_of_lt_of_le (klt) hU)).trans h.1, (hUU.cell (Nat.lt_of_lt_of_le (klt) hU)).trans h.2.1, (hUU.cell (Nat.lt_of_lt_of_le (klt2) hU)).trans h.2.2.1, (hUU.cell (Nat.lt_of_lt_of_le (klt2) hU)).trans h.2.2.2.1, (hUU.cell (Nat.lt_of_lt_of_le (klt2) hU)).trans h.2.2.2.2⟩
        have HKeep := Lib.hid hkeep
        clear hkeep
        go_region_held3 (fun w' => w'.cell? ⟨w.heap.size, 0, none⟩ = some (.int .i64 (q : Int)) ∧ w'.cell? ⟨w.heap.size, 1, none⟩ = some (.int .i64 (r : Int)) ∧ w'.cell? ⟨w.heap.size + 1, 0, none⟩ = some (.int .i64 v.c) ∧ w'.cell? ⟨w.heap.size + 1, 1, none⟩ = some (.int .i64 v.n) ∧ w'.cell? ⟨w.heap.size + 1, 2, none⟩ = some (.slice A4 v.ks.length cap4)) (first | assumption | (exact ⟨y0, y1, z0, z1, z2⟩) | (exact HKeep.out W3.drew w4 ⟨y0, y1, z0, z1, z2⟩ hb4 (Nat.le_refl _)) | (exact HKeep.out w4 w5 (by assumption) hb5 hlew4)) (first | (go_at_call 102; ((with_reducible refine (impl_ctorsOf xs ⟨(q : Int), (r : Int)⟩ _ _ F (ArrDt.below HX3.out hBr.drew HF3.out) (HF3.out.mono hBr.drew.size) HW.out HIW.out).mono ?_); rintro e w4 ⟨v4, F4, rfl, hb4, ha4, -, hfs4⟩); have hlew4 : W3.heap.size ≤ w4.heap.size := hb4.size) | (go_at_call 55; ((with_reducible refine (impl_has (ctorsL xs ⟨(q : Int), (r : Int)⟩) v.c _ _ F4 ha4 hfs4.under).mono ?_); rintro e w5 ⟨rfl, hb5⟩)))
        have hBa := hBr.drew.trans (hb4.mono hBr.drew.size)
        have hB5 := hBa.trans (hb5.mono hBa.size)
        have KT5 := Lib.hid (KT.out.same (hB5.block _ KT.out.lt))
        have KV5 := Lib.hid (KV.out.same (hB5.block _ KV.out.lt))
        have KG5 := Lib.hid (KG.out.same (hB5.block _ KG.out.lt))
        have HCG5 := Lib.hid (HCG.out.step hB5)
        have HX5 := Lib.hid (ArrDt.below HX3.out hB5 HF3.out)
        have HF5 := Lib.hid (HF3.out.mono hB5.size)
        have HA5 := Lib.hid (ArrV.below HA3.out hB5 HG3.out)
        have HG5 := Lib.hid (HG3.out.mono hB5.size)
        clear HKeep KT KV KG HCG HX3 HF3 HA3 HG3 y0 y1 z0 z1 z2 klt klt2 hBa hb4 hb5 ha4 hfs4 hBr t1 hgl3 gx gf
        cases e1 : hasB (ctorsL xs ⟨(q : Int), (r : Int)⟩) v.c with
        | false =>
          have HFin := Lib.hid (HBad.out w5 (c + 1) (.inl (by rw [H1.out, e1]; rfl)) HCG5.out KG5.out (by omega))
          clear e1
          go_wp2
          go_ret
          exact HFin.out
        | true =>
          obtain ⟨q', k, e2, hvc, hq', hkl⟩ := mem_ctorsL (xs := xs) (t := ⟨(q : Int), (r : Int)⟩) (.inr ⟨q, rfl, hql⟩) ((hasB_iff _ _).1 e1)
          obtain rfl : q = q' := Int.ofNat.inj e2
          have h2 := H1.out
          rw [e1, Bool.true_and, hvc, argsOf_get hql hkl] at h2
          have H2 := Lib.hid h2
          clear h2 e1 e2
          have HAI := Lib.hid (fun a ha => argTy_in (HW.out.ctor hql hkl) (i := (r : Int)) (by omega) (by omega) (a := a) ha)
          have HLA := Lib.hid (HW.out.ctor hql hkl).args
          have y0 : w5.cell? ⟨w.heap.size, 0, none⟩ = some (.int .i64 (q : Int)) := (KT5.out.cell 0).trans (by simp)
          have y1 : w5.cell? ⟨w.heap.size, 1, none⟩ = some (.int .i64 (r : Int)) := (KT5.out.cell 1).trans (by simp)
          have z0 : w5.cell? ⟨w.heap.size + 1, 0, none⟩ = some (.int .i64 v.c) := (KV5.out.cell 0).trans (by simp)
          have klt := KT5.out.lt
          have klt2 := KV5.out.lt
          have HVC := Lib.hid hvc
          clear hvc
          go_wp2_with fail
          rw [HVC.out]
          refine (impl_argTypes xs q k (r : Int) hql hkl w5 _ F HX5.out HF5.out HLA.out).mono ?_
          rintro e w6 ⟨v6, F6, rfl, hb6, ha6, -, hfs6⟩
          have KV6 := Lib.hid (KV5.out.same (hb6.block _ KV5.out.lt))
          have KG6 := Lib.hid (KG5.out.same (hb6.block _ KG5.out.lt))
          have HCG6 := Lib.hid (HCG5.out.step hb6)
          generalize hass : argsL xs[q].ctors[k] (r : Int) = ls at *
          clear hass
          obtain ⟨A6, cap6, rfl, hd3, hd4⟩ := ha6.form
          have HA6 : Hid (Arr w6 (TyR w6) ls (.slice A6 ls.length cap6) F6 ∧ Under w6.heap.size F6) := ⟨ha6, hfs6.under⟩
          have HN6 : Hid (∀ b ∈ F6, b ∉ [g]) := fun b hb h => by
            have h1 := (hfs6 b hb).1
            rw [List.mem_singleton.1 h] at h1
            have := KG5.out.lt
            omega
          clear ha6 hfs6 KT5 KV5 KG5 HCG5 HX5 HF5 HA5 HG5 y0 y1 z0 klt klt2 hB5 hb6
          have z2 : w6.cell? ⟨w.heap.size + 1, 2, none⟩ = some (.slice A4 v.ks.length cap4) := (KV6.out.cell 2).trans (by simp)
          have klt2 := KV6.out.lt
          by_cases hln : v.ks.length = ls.length
          · have t2 : ((ls.length : Int) != (v.ks.length : Int)) = false := by simp [hln]
            have h3 : fitsV xs (d + 1) ⟨(q : Int), (r : Int)⟩ v = zipAll (fitsV xs d) ls v.ks := by rw [H2.out, decide_eq_true hln, Bool.true_and]
            have H3 := Lib.hid h3
            have HLN := Lib.hid hln
            clear h3 hln
            go_wp2
            clear z2 klt2 t2
            go_loopw [90] (fun iv wr => ∃ i : Nat, ∃ ci : Int, i ≤ v.ks.length ∧ iv = .int .i64 i ∧ 0 ≤ ci ∧ ci ≤ 60 ∧ Hid (ci = c + 1 + (V.sizes (v.ks.take i) : Nat)) ∧ Hid (fitsV xs (d + 1) ⟨(q : Int), (r : Int)⟩ v = zipAll (fitsV xs d) (ls.drop i) (v.ks.drop i)) ∧ Hid (Blk wr g 3 #[.int .i64 ci]) ∧ Hid (Chg [g] w wr) ∧ Hid (Arr wr (TyR wr) ls (.slice A6 ls.length cap6) F6 ∧ Under wr.heap.size F6)) (fun iv _ => v.ks.length - (intOf iv).toNat)
            case atStart => exact ⟨0, c + 1, Nat.zero_le _, rfl, by omega, by omega, (by show c + 1 = c + 1 + ((0 : Nat) : Int); omega), H3, KG6, HCG6, HA6⟩
            case round =>
              clear KG6 HCG6 HA6 KV6
              obtain ⟨i, ci, hi, rfl, hci0, hci1, HCI, HR, KG, HCG, HA6⟩ := hrel
              by_cases hik : i < v.ks.length
              · have hil : i < ls.length := by rw [← HLN.out]; exact hik
                obtain ⟨b6, off6, rfl⟩ := HA6.out.1.ptr (by omega)
                have HAw := Lib.hid (ArrV.mono HA.out (HCG.out.kept HG.out (fun b hb h => HGG.out (by rw [← List.mem_singleton.1 h]; exact hb))))
                have HGw := Lib.hid (HG.out.mono HCG.out.size)
                have HXw := Lib.hid (ArrDt.mono HX.out (HCG.out.kept HF.out (fun b hb h => HGF.out (by rw [← List.mem_singleton.1 h]; exact hb))))
                have HFw := Lib.hid (HF.out.mono HCG.out.size)
                obtain ⟨b4, off4, rfl⟩ := HAw.out.ptr (by omega)
                obtain ⟨A7, cap7, G7, hb7, k0, k1, k2, HV7, HG7, hG7G, -, -⟩ := ArrV.at HAw.out HGw.out (Below.refl _ _) i hik
                have HN7 : Hid (g ∉ G7) := fun h => HGG.out (hG7G _ h)
                clear hG7G
                have g1 : (0 : Int) ≤ (i : Int) := by omega
                have g2 : (i : Int) < (ls.length : Int) := by omega
                have g3 : (i : Int) < (v.ks.length : Int) := by omega
                have hstep := HR.out
                rw [zipAll_step hil hik] at hstep
                have HST := Lib.hid hstep
                clear hstep
                have hwr : IntKind.i64.wrap ((deep : Int) + 1) = (deep : Int) + 1 := IntWalk.i64_in _ (by omega)
                obtain ⟨W7, hW7⟩ : ∃ W7, W7 = wr.alloc (.cells #[.int .i64 v.ks[i].c, .int .i64 v.ks[i].n, .slice A7 v.ks[i].ks.length cap7] 25) := ⟨_, rfl⟩
                have hb77 : Below wr.heap.size wr W7 := by rw [hW7]; exact (Below.refl _ _).alloc (Nat.le_refl _) _
                have KX : Hid (Blk W7 wr.heap.size 25 #[.int .i64 v.ks[i].c, .int .i64 v.ks[i].n, .slice A7 v.ks[i].ks.length cap7]) := by rw [hW7]; exact Blk.new _ _ _
                have KG7 := Lib.hid (KG.out.same (hb77.block _ KG.out.lt))
                have HCG7 := Lib.hid (HCG.out.step hb77)
                have HX7 := Lib.hid (ArrDt.below HXw.out hb77 HFw.out)
                have HF7 := Lib.hid (HFw.out.mono hb77.size)
                have HV77 := Lib.hid (HV7.out.below hb77 HG7.out)
                have HG77 := Lib.hid (HG7.out.mono hb77.size)
                have HA67 : Hid (Arr W7 (TyR W7) ls (.slice (some ⟨b6, off6, none⟩) ls.length cap6) F6 ∧ Under W7.heap.size F6) := ⟨ArrTy.below HA6.out.1 hb77 HA6.out.2, HA6.out.2.mono hb77.size⟩
                have hgw : g < wr.heap.size := KG.out.lt
                have hne7 : wr.heap.size ≠ g := by omega
                go_wp2_with fail
                rw [← hW7]
                clear hW7 k0 k1 k2 hb7 HAw HGw HXw HFw HV7 HG7 KG HCG HA6
                obtain ⟨hb6, a0, a1⟩ := ArrTy.at HA67.out.1 HA67.out.2 (Below.refl _ _) i hil
                have hb6n : b6 ≠ g := by
                  obtain ⟨b', off', cs', G', e', hb', -⟩ := HA67.out.1.get TyR_len hil
                  cases e'
                  exact fun e => HN6.out _ hb' (by rw [e]; exact List.mem_singleton.2 rfl)
                have k0 : W7.cell? ⟨wr.heap.size, 0, none⟩ = some (.int .i64 v.ks[i].c) := (KX.out.cell 0).trans (by simp)
                have k1 : W7.cell? ⟨wr.heap.size, 1, none⟩ = some (.int .i64 v.ks[i].n) := (KX.out.cell 1).trans (by simp)
                have k2 : W7.cell? ⟨wr.heap.size, 2, none⟩ = some (.slice A7 v.ks[i].ks.length cap7) := (KX.out.cell 2).trans (by simp)
                have kxl := KX.out.lt
                have HNE := Lib.hid (show b6 ∉ [g] from fun h => hb6n (List.mem_singleton.1 h))
                have HNE7 := Lib.hid (show wr.heap.size ∉ [g] from fun h => hne7 (List.mem_singleton.1 h))
                clear hb6n hne7 hgw
                have HCALL := Lib.hid (IH.out v.ks[i] (List.getElem_mem hik) xs HW.out d (deep + 1) (by omega) (by omega) ls[i] (HAI.out _ (List.getElem_mem hil)) W7.drew _ F _ G7 g ci (ArrDt.drew HX7.out) HF7.out HV77.out.drew HG77.out KG7.out HGF.out HN7.out hci0 hci1)
                rw [show ((deep + 1 : Nat) : Int) = (deep : Int) + 1 by omega] at HCALL
                go_region_held3 (fun w' => w'.cell? ⟨b6, off6 + i * 2, none⟩ = some (.int .i64 ls[i].d) ∧ w'.cell? ⟨b6, off6 + i * 2 + 1, none⟩ = some (.int .i64 ls[i].i) ∧ w'.cell? ⟨wr.heap.size, 0, none⟩ = some (.int .i64 v.ks[i].c) ∧ w'.cell? ⟨wr.heap.size, 1, none⟩ = some (.int .i64 v.ks[i].n) ∧ w'.cell? ⟨wr.heap.size, 2, none⟩ = some (.slice A7 v.ks[i].ks.length cap7)) (first | assumption | (exact ⟨a0, a1, k0, k1, k2⟩) | (exact ⟨(hC'.cell hb6 HNE.out).trans a0, (hC'.cell hb6 HNE.out).trans a1, (hC'.cell kxl HNE7.out).trans k0, (hC'.cell kxl HNE7.out).trans k1, (hC'.cell kxl HNE7.out).trans k2⟩)) (first | (go_at_call 96; ((with_reducible refine HCALL.out.mono ?_); rintro e w' ⟨c', rfl, hC', hK', hy', hp'⟩)))
                have hC2 := hC'.undrew
                have HCG8 := Lib.hid (HCG7.out.trans hC2)
                have HK8 := Lib.hid hK'
                have HA68 : Hid (Arr w' (TyR w') ls (.slice (some ⟨b6, off6, none⟩) ls.length cap6) F6 ∧ Under w'.heap.size F6) := ⟨ArrTy.mono HA67.out.1 (hC2.kept HA67.out.2 HN6.out), HA67.out.2.mono hC2.size⟩
                clear hwr hC' hC2 hK' a0 a1 k0 k1 k2
                cases e3 : scanB xs d ls[i] v.ks[i] ci with
                | false =>
                  have HFin := Lib.hid (HBad.out w' c' (by
                    unfold scanB at e3
                    rw [Bool.and_eq_false_iff] at e3
                    rcases e3 with h | h
                    · left; rw [HST.out, h]; rfl
                    · right
                      have h1 := of_decide_eq_false h
                      have h2 := HCI.out
                      have h3 := sizes_step hik
                      have h4 := sizes_take_le v.ks (i + 1)
                      have h5 := nodes_ks v
                      omega) HCG8.out HK8.out hp')
                  clear e3 hy'
                  go_wp2
                  go_ret
                  exact HFin.out
                | true =>
                  have hcc2 := hy' e3
                  unfold scanB at e3
                  rw [Bool.and_eq_true] at e3
                  have h60 := of_decide_eq_true e3.2
                  have hR2 : Hid (fitsV xs (d + 1) ⟨(q : Int), (r : Int)⟩ v = zipAll (fitsV xs d) (ls.drop (i + 1)) (v.ks.drop (i + 1))) := by rw [HST.out, e3.1, Bool.true_and]; rfl
                  have hCI2 : Hid (c' = c + 1 + (V.sizes (v.ks.take (i + 1)) : Nat)) := by
                    have h2 := HCI.out
                    have h3 := sizes_step hik
                    unfold Hid
                    omega
                  have hc60' : c' ≤ 60 := by omega
                  clear e3 hy' hcc2 h60
                  go_wp2
                  go_roundw
                  case rel => exact ⟨i + 1, c', by omega, by go_num, hp', hc60', hCI2, hR2, HK8, HCG8, HA68⟩
                  case measure => (simp [intOf] <;> omega)
              · have hT : scanB xs (d + 1) ⟨(q : Int), (r : Int)⟩ v c = true := by
                  unfold scanB
                  have h1 := HCI.out
                  have h5 := nodes_ks v
                  rw [List.take_of_length_le (by omega)] at h1
                  rw [HR.out, zipAll_end (by have := HLN.out; omega), Bool.true_and]
                  exact decide_eq_true (by omega)
                have hfin : ScanPost xs (d + 1) ⟨(q : Int), (r : Int)⟩ v c g w (.returned (.bool true)) wr := ⟨ci, by rw [hT], HCG.out, KG.out, fun _ => by
                  have h1 := HCI.out
                  have h5 := nodes_ks v
                  rw [List.take_of_length_le (by omega)] at h1
                  omega, hci0⟩
                have HFin := Lib.hid hfin
                clear hfin hT
                go_wp2
                go_ret
                exact HFin.out
          · have t2 : ((ls.length : Int) != (v.ks.length : Int)) = true := by rw [bne_iff_ne]; omega
            have HFin := Lib.hid (HBad.out w6 (c + 1) (.inl (by rw [H2.out, decide_eq_false hln]; rfl)) HCG6.out KG6.out (by omega))
            clear hln
            go_wp2
            go_ret
            exact HFin.out
theorem impl_valueScan : ∀ v, ScanI v := V.indv valueScan_of
end Go.Proofs.Ytgckkiencmickaa

namespace Go.Proofs.Ytgckkiencmickaa
open Go.RowKit

set_option maxRecDepth 100000 in
set_option maxHeartbeats 1600000 in
theorem spec_l2Is (xs : List Dt) (t : Ty) (v : V) (w : World) (x : Value) (F : List Nat) (cs : List Value) (G : List Nat) (hx : Arr w (DtR w) xs x F) (hf : Under w.heap.size F) (hv : VR w v cs G) (hg : Under w.heap.size G) (hw : WorldOK xs) (ht : TyIn xs.length t) (hz : v.size ≤ 1048576) :
    Calls Try.prog 54 #[x, .agg #[.int .i64 t.d, .int .i64 t.i], .agg cs.toArray] w fun e w' => e = .returned (.bool (valueOkB xs t v)) ∧ Below w.heap.size w w' := by
  obtain ⟨kv, rfl, ha⟩ := (VR_iff _ _ _).1 hv
  obtain ⟨A, cap, rfl, hc1, hc2⟩ := hx.form
  obtain ⟨A4, cap4, rfl, hc3, hc4⟩ := ha.form
  have HV := Lib.hid hv
  have HX := Lib.hid hx
  have HF := Lib.hid hf
  have HG := Lib.hid hg
  clear hx hf hg
  clear ha hv
  go_enter Try.func54, Try.ntmps54
  go_wp2_with fail
  obtain ⟨W2, hW2⟩ : ∃ W2, W2 = ((w.alloc (.cells #[.int .i64 t.d, .int .i64 t.i] 36)).alloc (.cells #[.int .i64 v.c, .int .i64 v.n, .slice A4 v.ks.length cap4] 25)) := ⟨_, rfl⟩
  have hB0 : Below w.heap.size w W2 := by rw [hW2]; exact ((Below.refl _ _).alloc (Nat.le_refl _) _).alloc (by simp) _
  have KT : Hid (Blk W2 w.heap.size 36 #[.int .i64 t.d, .int .i64 t.i]) := by rw [hW2]; exact (Blk.new w _ _).same (Below.heap_alloc _ _ _ (by simp))
  have KV : Hid (Blk W2 (w.heap.size + 1) 25 #[.int .i64 v.c, .int .i64 v.n, .slice A4 v.ks.length cap4]) := by rw [hW2]; have h := Blk.new (w.alloc (.cells #[.int .i64 t.d, .int .i64 t.i] 36)) 25 #[.int .i64 v.c, .int .i64 v.n, .slice A4 v.ks.length cap4]; rw [World.size_alloc] at h; exact h
  rw [← hW2]
  clear hW2
  refine (spec_l2Fits v xs hw 10 (Nat.le_refl _) t ht W2 _ F _ G (ArrDt.below HX.out hB0 HF.out) (HF.out.mono hB0.size) (HV.out.below hB0 HG.out) (HG.out.mono hB0.size)).mono ?_
  rintro e w3 ⟨rfl, hb3⟩
  have hB3 := hB0.trans (hb3.mono hB0.size)
  have KV3 := Lib.hid (KV.out.same (hb3.block _ KV.out.lt))
  have KT3 := Lib.hid (KT.out.same (hb3.block _ KT.out.lt))
  have y0 : w3.cell? ⟨w.heap.size, 0, none⟩ = some (.int .i64 t.d) := (KT3.out.cell 0).trans (by simp)
  have y1 : w3.cell? ⟨w.heap.size, 1, none⟩ = some (.int .i64 t.i) := (KT3.out.cell 1).trans (by simp)
  have z0 : w3.cell? ⟨w.heap.size + 1, 0, none⟩ = some (.int .i64 v.c) := (KV3.out.cell 0).trans (by simp)
  have z1 : w3.cell? ⟨w.heap.size + 1, 1, none⟩ = some (.int .i64 v.n) := (KV3.out.cell 1).trans (by simp)
  have z2 : w3.cell? ⟨w.heap.size + 1, 2, none⟩ = some (.slice A4 v.ks.length cap4) := (KV3.out.cell 2).trans (by simp)
  have klt := KT3.out.lt
  have klt2 := KV3.out.lt
  clear hb3 KT KV
  cases e1 : fitsV xs 10 t v with
  | false =>
    have hf : Hid (valueOkB xs t v = false) := by unfold Hid valueOkB; rw [e1]; rfl
    clear e1
    go_wp2
    go_ret
    exact ⟨ret_bool hf.out.symm, hB3⟩
  | true =>
    have hf : Hid (valueOkB xs t v = decide (nodes v ≤ 60)) := by unfold Hid valueOkB; rw [e1]; rfl
    clear e1
    go_wp2_with fail
    refine (spec_l2Count v 60 (by omega) (by omega) w3 _ G (HV.out.below hB3 HG.out) (HG.out.mono hB3.size) (by unfold nodes; omega)).mono ?_
    rintro e w4 ⟨c, rfl, hu, hb4⟩
    have hB4 := hB3.trans (hb4.mono hB3.size)
    have hcd : decide (c ≤ 60) = decide (nodes v ≤ 60) := by
      have h1 := hu.yes
      have h2 := hu.no
      by_cases h : nodes v ≤ 60
      · rw [decide_eq_true h]; exact decide_eq_true (by have := h1 (by omega); omega)
      · rw [decide_eq_false h]; exact decide_eq_false (by have := h2 (by omega); omega)
    have HCD := Lib.hid hcd
    clear hu hcd hb4
    go_wp2
    go_ret
    exact ⟨ret_bool (hf.out.trans HCD.out.symm).symm, hB4⟩

set_option maxRecDepth 100000 in
set_option maxHeartbeats 1600000 in
theorem impl_valueOk (xs : List Dt) (t : Ty) (v : V) (w : World) (x : Value) (F : List Nat) (cs : List Value) (G : List Nat) (hx : Arr w (DtR w) xs x F) (hf : Under w.heap.size F) (hv : VR w v cs G) (hg : Under w.heap.size G) (hw : WorldOK xs) (ht : TyIn xs.length t) (hz : v.size ≤ 1048576) :
    Calls Try.prog 52 #[x, .agg #[.int .i64 t.d, .int .i64 t.i], .agg cs.toArray] w fun e w' => e = .returned (.bool (valueOkB xs t v)) ∧ Below w.heap.size w w' := by
  obtain ⟨kv, rfl, ha⟩ := (VR_iff _ _ _).1 hv
  obtain ⟨A, cap, rfl, hc1, hc2⟩ := hx.form
  obtain ⟨A4, cap4, rfl, hc3, hc4⟩ := ha.form
  have HV := Lib.hid hv
  have HX := Lib.hid hx
  have HF := Lib.hid hf
  have HG := Lib.hid hg
  clear hx hf hg
  clear ha hv
  go_enter Try.func52, Try.ntmps52
  go_wp2_with fail
  obtain ⟨W2, hW2⟩ : ∃ W2, W2 = (((w.alloc (.cells #[.int .i64 t.d, .int .i64 t.i] 36)).alloc (.cells #[.int .i64 v.c, .int .i64 v.n, .slice A4 v.ks.length cap4] 25)).alloc (.cells #[.int .i64 0] 3)) := ⟨_, rfl⟩
  have hB0 : Below w.heap.size w W2 := by rw [hW2]; exact (((Below.refl _ _).alloc (Nat.le_refl _) _).alloc (by simp) _).alloc (by simp; omega) _
  have KG : Hid (Blk W2 (w.heap.size + 2) 3 #[.int .i64 0]) := by
    rw [hW2]
    have h := Blk.new ((w.alloc (.cells #[.int .i64 t.d, .int .i64 t.i] 36)).alloc (.cells #[.int .i64 v.c, .int .i64 v.n, .slice A4 v.ks.length cap4] 25)) 3 #[.int .i64 0]
    rw [show (((w.alloc (.cells #[.int .i64 t.d, .int .i64 t.i] 36)).alloc (.cells #[.int .i64 v.c, .int .i64 v.n, .slice A4 v.ks.length cap4] 25))).heap.size = w.heap.size + 2 from by simp] at h
    exact h
  rw [← hW2]
  clear hW2
  refine (impl_valueScan v xs hw 10 1 rfl (Nat.le_refl _) t ht W2 _ F _ G (w.heap.size + 2) 0 (ArrDt.below HX.out hB0 HF.out) (HF.out.mono hB0.size) (HV.out.below hB0 HG.out) (HG.out.mono hB0.size) KG.out (fun h => by have := HF.out _ h; omega) (fun h => by have := HG.out _ h; omega) (by omega) (by omega)).mono ?_
  rintro e w3 ⟨c', rfl, hC, -, -, -⟩
  have hB3 := hB0.trans (hC.below (B := w.heap.size) (fun b hb => by rw [List.mem_singleton.1 hb]; omega) hB0.size)
  have hf : Hid (valueOkB xs t v = scanB xs 10 t v 0) := by
    unfold Hid valueOkB scanB
    congr 1
    exact decide_eq_decide.2 (by omega)
  generalize hbb : scanB xs 10 t v 0 = bb at *
  clear hbb hC
  go_wp2
  go_ret
  exact ⟨ret_bool hf.out.symm, hB3⟩

set_option maxRecDepth 100000 in
set_option maxHeartbeats 1600000 in
theorem spec_ValueValid (xs : List Dt) (t : Ty) (v : V) (w : World) (x : Value) (F : List Nat) (cs : List Value) (G : List Nat) (hx : Arr w (DtR w) xs x F) (hf : Under w.heap.size F) (hv : VR w v cs G) (hg : Under w.heap.size G) (hz : v.size ≤ 1048576) :
    Calls Try.prog 20 #[x, .agg #[.int .i64 t.d, .int .i64 t.i], .agg cs.toArray] w fun e w' => e = .returned (.bool (valueValidB xs t v)) ∧ Below w.heap.size w w' := by
  obtain ⟨kv, rfl, ha⟩ := (VR_iff _ _ _).1 hv
  obtain ⟨A, cap, rfl, hc1, hc2⟩ := hx.form
  obtain ⟨A4, cap4, rfl, hc3, hc4⟩ := ha.form
  have HV := Lib.hid hv
  have HX := Lib.hid hx
  have HF := Lib.hid hf
  have HG := Lib.hid hg
  clear hx hf hg
  clear ha hv
  go_enter Try.func20, Try.ntmps20
  go_wp2_with fail
  obtain ⟨W2, hW2⟩ : ∃ W2, W2 = ((w.alloc (.cells #[.int .i64 t.d, .int .i64 t.i] 36)).alloc (.cells #[.int .i64 v.c, .int .i64 v.n, .slice A4 v.ks.length cap4] 25)) := ⟨_, rfl⟩
  have hB0 : Below w.heap.size w W2 := by rw [hW2]; exact ((Below.refl _ _).alloc (Nat.le_refl _) _).alloc (by simp) _
  have KT : Hid (Blk W2 w.heap.size 36 #[.int .i64 t.d, .int .i64 t.i]) := by rw [hW2]; exact (Blk.new w _ _).same (Below.heap_alloc _ _ _ (by simp))
  have KV : Hid (Blk W2 (w.heap.size + 1) 25 #[.int .i64 v.c, .int .i64 v.n, .slice A4 v.ks.length cap4]) := by rw [hW2]; have h := Blk.new (w.alloc (.cells #[.int .i64 t.d, .int .i64 t.i] 36)) 25 #[.int .i64 v.c, .int .i64 v.n, .slice A4 v.ks.length cap4]; rw [World.size_alloc] at h; exact h
  rw [← hW2]
  clear hW2
  have y0 : W2.cell? ⟨w.heap.size, 0, none⟩ = some (.int .i64 t.d) := (KT.out.cell 0).trans (by simp)
  refine (spec_TypeValid xs t W2 _ F (ArrDt.below HX.out hB0 HF.out) (HF.out.mono hB0.size)).mono ?_
  rintro e w3 ⟨rfl, hb3⟩
  have hB3 := hB0.trans (hb3.mono hB0.size)
  have KV3 := Lib.hid (KV.out.same (hb3.block _ KV.out.lt))
  have KT3 := Lib.hid (KT.out.same (hb3.block _ KT.out.lt))
  clear y0
  have y0 : w3.cell? ⟨w.heap.size, 0, none⟩ = some (.int .i64 t.d) := (KT3.out.cell 0).trans (by simp)
  have y1 : w3.cell? ⟨w.heap.size, 1, none⟩ = some (.int .i64 t.i) := (KT3.out.cell 1).trans (by simp)
  have z0 : w3.cell? ⟨w.heap.size + 1, 0, none⟩ = some (.int .i64 v.c) := (KV3.out.cell 0).trans (by simp)
  have z1 : w3.cell? ⟨w.heap.size + 1, 1, none⟩ = some (.int .i64 v.n) := (KV3.out.cell 1).trans (by simp)
  have z2 : w3.cell? ⟨w.heap.size + 1, 2, none⟩ = some (.slice A4 v.ks.length cap4) := (KV3.out.cell 2).trans (by simp)
  have klt := KT3.out.lt
  have klt2 := KV3.out.lt
  clear hb3 KT KV
  cases e1 : typeValidB xs t with
  | false =>
    have hf : Hid (valueValidB xs t v = false) := by unfold Hid valueValidB; rw [e1]; rfl
    clear e1
    go_wp2
    go_ret
    exact ⟨ret_bool hf.out.symm, hB3⟩
  | true =>
    have hf : Hid (valueValidB xs t v = valueOkB xs t v) := by unfold Hid valueValidB; rw [e1]; rfl
    obtain ⟨hw, hto⟩ := typeValid_split e1
    have HW := Lib.hid hw
    have HT := Lib.hid (typeOkB_tyIn hto)
    clear e1 hw hto
    go_wp2_with fail
    refine (spec_l2Is xs t v w3 _ F _ G (ArrDt.below HX.out hB3 HF.out) (HF.out.mono hB3.size) (HV.out.below hB3 HG.out) (HG.out.mono hB3.size) HW.out HT.out hz).mono ?_
    rintro e w4 ⟨rfl, hb4⟩
    have hB4 := hB3.trans (hb4.mono hB3.size)
    generalize hbb : valueOkB xs t v = bb
    have HBB := Lib.hid hbb
    clear hbb
    go_wp2
    go_ret
    exact ⟨ret_bool (hf.out.trans HBB.out).symm, hB4⟩

set_option maxRecDepth 100000 in
set_option maxHeartbeats 1600000 in
theorem impl_ValueValid (xs : List Dt) (t : Ty) (v : V) (w : World) (x : Value) (F : List Nat) (cs : List Value) (G : List Nat) (hx : Arr w (DtR w) xs x F) (hf : Under w.heap.size F) (hv : VR w v cs G) (hg : Under w.heap.size G) (hz : v.size ≤ 1048576) :
    Calls Try.prog 19 #[x, .agg #[.int .i64 t.d, .int .i64 t.i], .agg cs.toArray] w fun e w' => e = .returned (.bool (valueValidB xs t v)) ∧ Below w.heap.size w w' := by
  obtain ⟨kv, rfl, ha⟩ := (VR_iff _ _ _).1 hv
  obtain ⟨A, cap, rfl, hc1, hc2⟩ := hx.form
  obtain ⟨A4, cap4, rfl, hc3, hc4⟩ := ha.form
  have HV := Lib.hid hv
  have HX := Lib.hid hx
  have HF := Lib.hid hf
  have HG := Lib.hid hg
  clear hx hf hg
  clear ha hv
  go_enter Try.func19, Try.ntmps19
  go_wp2_with fail
  obtain ⟨W2, hW2⟩ : ∃ W2, W2 = ((w.alloc (.cells #[.int .i64 t.d, .int .i64 t.i] 36)).alloc (.cells #[.int .i64 v.c, .int .i64 v.n, .slice A4 v.ks.length cap4] 25)) := ⟨_, rfl⟩
  have hB0 : Below w.heap.size w W2 := by rw [hW2]; exact ((Below.refl _ _).alloc (Nat.le_refl _) _).alloc (by simp) _
  have KT : Hid (Blk W2 w.heap.size 36 #[.int .i64 t.d, .int .i64 t.i]) := by rw [hW2]; exact (Blk.new w _ _).same (Below.heap_alloc _ _ _ (by simp))
  have KV : Hid (Blk W2 (w.heap.size + 1) 25 #[.int .i64 v.c, .int .i64 v.n, .slice A4 v.ks.length cap4]) := by rw [hW2]; have h := Blk.new (w.alloc (.cells #[.int .i64 t.d, .int .i64 t.i] 36)) 25 #[.int .i64 v.c, .int .i64 v.n, .slice A4 v.ks.length cap4]; rw [World.size_alloc] at h; exact h
  rw [← hW2]
  clear hW2
  have y0 : W2.cell? ⟨w.heap.size, 0, none⟩ = some (.int .i64 t.d) := (KT.out.cell 0).trans (by simp)
  refine (impl_TypeValid xs t W2 _ F (ArrDt.below HX.out hB0 HF.out) (HF.out.mono hB0.size)).mono ?_
  rintro e w3 ⟨rfl, hb3⟩
  have hB3 := hB0.trans (hb3.mono hB0.size)
  have KV3 := Lib.hid (KV.out.same (hb3.block _ KV.out.lt))
  have KT3 := Lib.hid (KT.out.same (hb3.block _ KT.out.lt))
  clear y0
  have y0 : w3.cell? ⟨w.heap.size, 0, none⟩ = some (.int .i64 t.d) := (KT3.out.cell 0).trans (by simp)
  have y1 : w3.cell? ⟨w.heap.size, 1, none⟩ = some (.int .i64 t.i) := (KT3.out.cell 1).trans (by simp)
  have z0 : w3.cell? ⟨w.heap.size + 1, 0, none⟩ = some (.int .i64 v.c) := (KV3.out.cell 0).trans (by simp)
  have z1 : w3.cell? ⟨w.heap.size + 1, 1, none⟩ = some (.int .i64 v.n) := (KV3.out.cell 1).trans (by simp)
  have z2 : w3.cell? ⟨w.heap.size + 1, 2, none⟩ = some (.slice A4 v.ks.length cap4) := (KV3.out.cell 2).trans (by simp)
  have klt := KT3.out.lt
  have klt2 := KV3.out.lt
  clear hb3 KT KV
  cases e1 : typeValidB xs t with
  | false =>
    have hf : Hid (valueValidB xs t v = false) := by unfold Hid valueValidB; rw [e1]; rfl
    clear e1
    go_wp2
    go_ret
    exact ⟨ret_bool hf.out.symm, hB3⟩
  | true =>
    have hf : Hid (valueValidB xs t v = valueOkB xs t v) := by unfold Hid valueValidB; rw [e1]; rfl
    obtain ⟨hw, hto⟩ := typeValid_split e1
    have HW := Lib.hid hw
    have HT := Lib.hid (typeOkB_tyIn hto)
    clear e1 hw hto
    go_wp2_with fail
    refine (impl_valueOk xs t v w3 _ F _ G (ArrDt.below HX.out hB3 HF.out) (HF.out.mono hB3.size) (HV.out.below hB3 HG.out) (HG.out.mono hB3.size) HW.out HT.out hz).mono ?_
    rintro e w4 ⟨rfl, hb4⟩
    have hB4 := hB3.trans (hb4.mono hB3.size)
    generalize hbb : valueOkB xs t v = bb
    have HBB := Lib.hid hbb
    clear hbb
    go_wp2
    go_ret
    exact ⟨ret_bool (hf.out.trans HBB.out).symm, hB4⟩
end Go.Proofs.Ytgckkiencmickaa
