/-
  Lemmas and contracts of functions: FormatValue of the program. Conditions: none. What comes in as an argument (slices of structs, trees) lies in memory as the plain data say. Conditions: none. A slice of bytes that comes in as an argument lies in memory as the plain data say. Conditions: none.
-/
import Derived.Test.YtgckkiencmickaaDoorKAH
import Derived.Test.YtgckkiencmickaaDoorKAB
import Derived.Test.YtgckkiencmickaaDoorKAC
import Derived.Deep.RegionWith
import Derived.Test.YtgckkiencmickaaDoorKAA
import Derived.ProofKit
import Derived.ChangeArms
import Derived.Deep.Fields
import Derived.Test.YtgckkiencmickaaDoorChecked

set_option linter.unusedVariables false
set_option linter.unusedSimpArgs false

namespace Go.Proofs.YtgckkiencmickaaDoor
open Go.RowKit

theorem ArrTy_lt {w0 : World} {b off n cap : Nat} {F : List Nat} {xs : List Ty} (h : Arr w0 (TyR w0) xs (.slice (some ⟨b, off, none⟩) n cap) F) (hF : Under w0.heap.size F) (i : Nat) (hi : i < xs.length) : b < w0.heap.size := (ArrTy.at h hF (Below.refl _ _) i hi).1

/-- the texts of the first i parts -/
def vsB (xs : List Dt) (d : Nat) (ls : List Ty) (ks : List V) (i : Nat) : List ByteArray := (List.zipWith (vT xs d) (ls.take i) (ks.take i)).map bs
theorem vsB_len (xs : List Dt) (d : Nat) (ls : List Ty) (ks : List V) (i : Nat) : (vsB xs d ls ks i).length ≤ i := by
  unfold vsB; rw [List.length_map, List.length_zipWith, List.length_take]; omega
theorem vsB_succ (xs : List Dt) (d : Nat) (ls : List Ty) (ks : List V) (i : Nat) (h1 : i < ls.length) (h2 : i < ks.length) : vsB xs d ls ks (i + 1) = vsB xs d ls ks i ++ [bs (vT xs d ls[i] ks[i])] := by
  unfold vsB
  rw [take_snoc' ls i h1, take_snoc' ks i h2, List.zipWith_append (by rw [List.length_take, List.length_take]; omega), List.map_append]
  rfl
theorem vsB_all (xs : List Dt) (d : Nat) (ls : List Ty) (ks : List V) {i : Nat} (h1 : ls.length ≤ i) (h2 : ks.length ≤ i) : vsB xs d ls ks i = (List.zipWith (vT xs d) ls ks).map bs := by
  unfold vsB; rw [List.take_of_length_le h1, List.take_of_length_le h2]
theorem vT_listed {xs : List Dt} {d q k : Nat} {i : Int} {v : V} (hq : q < xs.length) (hk : k < xs[q].ctors.length) (hvc : v.c = (k : Int)) (hl : v.ks.length = (argsL xs[q].ctors[k] i).length) : vT xs (d + 1) ⟨(q : Int), i⟩ v = tl xs[q].ctors[k].name ++ listedT ((List.zipWith (vT xs d) (argsL xs[q].ctors[k] i) v.ks).map bs) := by
  rw [vT_data (by show ¬ ((q : Int) = -1); omega), hvc, argsOf_get hq hk, ctorN_get hq hk, listedT_lst, List.length_zipWith, hl, Nat.min_self]
theorem join_le (ss : List ByteArray) : (Lib.join (ss.map tl) [44]).length ≤ (listedT ss).length := by
  unfold listedT
  cases ss with
  | nil => simp [Lib.join]
  | cons a l => rw [if_neg (by simp)]; simp only [List.length_cons, List.length_append]; omega
theorem bs_app (s : ByteArray) (l : List UInt8) : bs (tl s ++ l) = s ++ bs l := by rw [← bs_append, bs_tl]
/-- contract of valueText at one value -/
def TxtI (v : V) : Prop := ∀ (xs : List Dt) (_ : WorldOK xs) (d : Nat) (_ : d ≤ 10) (t : Ty) (_ : TyIn xs.length t) (_ : fitsV xs d t v = true) (_ : nodes v ≤ 60) (w : World) (x : Value) (F : List Nat) (cs : List Value) (G : List Nat), Arr w (DtR w) xs x F → Under w.heap.size F → VR w v cs G → Under w.heap.size G →
  Calls Tryd.prog 9 #[x, .agg #[.int .i64 t.d, .int .i64 t.i], .agg cs.toArray] w fun e w' => e = .returned (.string (bs (vT xs d t v))) ∧ Below w.heap.size w w'
set_option maxRecDepth 100000 in
set_option maxHeartbeats 16000000 in
theorem valueText_of (v : V) (ih : ∀ k ∈ v.ks, TxtI k) : TxtI v := by
  intro xs hw d hd t ht hfit hn60 w x F cs G hx hf hv hg
  obtain ⟨kv, rfl, ha⟩ := (VR_iff _ _ _).1 hv
  obtain ⟨A, cap, rfl, hc1, hc2⟩ := hx.form
  obtain ⟨A4, cap4, rfl, hc3, hc4⟩ := ha.form
  have hlen := vT_len hw d t v ht hfit
  have HKN60 : Hid (∀ k ∈ v.ks, nodes k ≤ 60) := fun k hk => Nat.le_trans (nodes_kid hk) hn60
  have HW := Lib.hid hw
  have IH := Lib.hid ih
  have HX := Lib.hid hx
  have HF := Lib.hid hf
  have HA := Lib.hid ha
  have HG := Lib.hid hg
  clear hx hf ha hg
  clear hw ih hv
  cases d with
  | zero => rw [fitsV] at hfit; cases hfit
  | succ d =>
  rcases ht with ht | ⟨q, r, rfl, hql, hrl⟩
  · have hB0 : Below w.heap.size w ((w.alloc (.cells #[.int .i64 t.d, .int .i64 t.i] 25)).alloc (.cells #[.int .i64 v.c, .int .i64 v.n, .slice A4 v.ks.length cap4] 28)) := ((Below.refl _ _).alloc (Nat.le_refl _) _).alloc (by simp) _
    rw [fitsV_int ht] at hfit
    unfold isNum at hfit
    rw [Bool.and_eq_true, Bool.and_eq_true] at hfit
    have t0 : (v.c == -1) = true := hfit.1
    have hq := (withinB_iff _ _ _).1 hfit.2.1
    have hf : Hid (bs (vT xs (d + 1) t v) = bs (digT v.n)) := by unfold Hid; rw [vT_int ht]
    obtain ⟨n, hn⟩ : ∃ n : Nat, v.n = (n : Int) := ⟨v.n.toNat, by omega⟩
    have hn10 : n < 10 := by omega
    have HN := Lib.hid hn
    clear hfit hlen hn60 hn hq ht
    go_enter Tryd.func9, Tryd.ntmps9
    go_wp2_with fail
    rw [HN.out]
    refine (strconv_Itoa n hn10 _).mono ?_
    rintro e w' ⟨rfl, hB'⟩
    rw [← HN.out] at hB' ⊢
    have hB1 := hB0.trans (hB'.mono hB0.size)
    go_wp2
    go_ret
    exact ⟨ret_str hf.out.symm, hB1⟩
  · obtain ⟨k, hvc, hkl, h1, h2, h3⟩ := fits_parts hql hfit
    have t0 : (v.c == -1) = false := by rw [hvc, beq_eq_false_iff_ne]; omega
    have hvt := vT_listed (d := d) hql hkl hvc h2
    have HVT := Lib.hid hvt
    have HAI := Lib.hid (fun a ha => argTy_in (HW.out.ctor hql hkl) (i := (r : Int)) (by omega) (by omega) (a := a) ha)
    have HLA := Lib.hid (HW.out.ctor hql hkl).args
    have hla3 : v.ks.length ≤ 3 := by rw [h2, argsL_len]; exact HLA.out
    have HZA := Lib.hid (fun i h1 h2 => zipAll_get h3 i h1 h2)
    have HLN := Lib.hid h2
    have HVC := Lib.hid hvc
    have hn5 := nameOk_len (HW.out.ctor hql hkl).name
    have HL5 : Hid ((vT xs (d + 1) ⟨(q : Int), (r : Int)⟩ v).length ≤ 480) := by unfold Hid; omega
    clear hfit h1 h2 h3 hvt hvc hlen hn60
    obtain ⟨i0, hi, hz0, hz1, hz2⟩ := info_parts info_strE
    have HI := Lib.hid hi
    have HZ0 := Lib.hid hz0
    have HZ1 := Lib.hid hz1
    have HZ2 := Lib.hid hz2
    clear hi hz0 hz1 hz2
    have hB0 : Below w.heap.size w ((w.alloc (.cells #[.int .i64 (q : Int), .int .i64 (r : Int)] 25)).alloc (.cells #[.int .i64 v.c, .int .i64 v.n, .slice A4 v.ks.length cap4] 28)) := ((Below.refl _ _).alloc (Nat.le_refl _) _).alloc (by simp) _
    have KT : Hid (Blk ((w.alloc (.cells #[.int .i64 (q : Int), .int .i64 (r : Int)] 25)).alloc (.cells #[.int .i64 v.c, .int .i64 v.n, .slice A4 v.ks.length cap4] 28)) w.heap.size 25 #[.int .i64 (q : Int), .int .i64 (r : Int)]) := (Blk.new w _ _).same (Below.heap_alloc _ _ _ (by simp))
    have KV : Hid (Blk ((w.alloc (.cells #[.int .i64 (q : Int), .int .i64 (r : Int)] 25)).alloc (.cells #[.int .i64 v.c, .int .i64 v.n, .slice A4 v.ks.length cap4] 28)) (w.heap.size + 1) 28 #[.int .i64 v.c, .int .i64 v.n, .slice A4 v.ks.length cap4]) := by have h := Blk.new (w.alloc (.cells #[.int .i64 (q : Int), .int .i64 (r : Int)] 25)) 28 #[.int .i64 v.c, .int .i64 v.n, .slice A4 v.ks.length cap4]; rw [World.size_alloc] at h; exact h
    go_enter Tryd.func9, Tryd.ntmps9
    go_wp2_with fail
    obtain ⟨W2, hW2⟩ : ∃ W2, W2 = ((w.alloc (.cells #[.int .i64 (q : Int), .int .i64 (r : Int)] 25)).alloc (.cells #[.int .i64 v.c, .int .i64 v.n, .slice A4 v.ks.length cap4] 28)) := ⟨_, rfl⟩
    rw [← hW2] at hB0 KT KV ⊢
    clear hW2
    rw [HVC.out]
    refine (impl_argTypes xs q k (r : Int) hql hkl _ _ F (ArrDt.below HX.out hB0 HF.out) (HF.out.mono hB0.size) HLA.out).mono ?_
    rintro e w6 ⟨v6, F6, rfl, hb6, ha6, -, hfs6⟩
    have hB6 := hB0.trans (hb6.mono hB0.size)
    have KT6 := Lib.hid (KT.out.same (hb6.block _ KT.out.lt))
    have KV6 := Lib.hid (KV.out.same (hb6.block _ KV.out.lt))
    generalize hass : argsL xs[q].ctors[k] (r : Int) = ls at *
    clear hass
    obtain ⟨A6, cap6, rfl, hd3, hd4⟩ := ha6.form
    have HA6 := Lib.hid ha6
    have HU6 := Lib.hid hfs6.under
    clear ha6 hfs6 hb6 KT KV hB0
    have z2 : w6.cell? ⟨w.heap.size + 1, 2, none⟩ = some (.slice A4 v.ks.length cap4) := (KV6.out.cell 2).trans (by simp)
    have klt2 := KV6.out.lt
    have HNIL : Hid (Own w6 w6.heap.size 9 1 StrR (vsB xs d ls v.ks 0) (.slice none 0 0) []) := (show Own _ _ _ _ _ (vsB xs d ls v.ks 0) _ _ from Own.nil _ _ _ _ _)
    go_wp2
    clear z2 klt2
    go_loopw [8, 25] (fun ov iv wr => ∃ i : Nat, i ≤ v.ks.length ∧ iv = .int .i64 i ∧ Hid (Own wr w6.heap.size 9 1 StrR (vsB xs d ls v.ks i) ov []) ∧ Below w6.heap.size w6 wr) (fun _ iv _ => v.ks.length - (intOf iv).toNat)
    case atStart => exact ⟨0, Nat.zero_le _, rfl, HNIL, Below.refl _ _⟩
    case round =>
      clear HNIL
      obtain ⟨i, hi, rfl, HO, hBr⟩ := hrel
      have hBw0 : Below w.heap.size w wr := hB6.trans (hBr.mono hB6.size)
      by_cases hik : i < v.ks.length
      · have hil : i < ls.length := by rw [← HLN.out]; exact hik
        obtain ⟨b6, off6, rfl⟩ := HA6.out.ptr (by omega)
        obtain ⟨b4, off4, rfl⟩ := HA.out.ptr (by omega)
        obtain ⟨A7, cap7, G7, hb7, k0, k1, k2, HV7, HG7, -, -, -⟩ := ArrV.at HA.out HG.out hBw0 i hik
        have g1 : (0 : Int) ≤ (i : Int) := by omega
        have g2 : (i : Int) < (ls.length : Int) := by omega
        have g3 : (i : Int) < (v.ks.length : Int) := by omega
        have e1 : decide (i < v.ks.length) = true := by simpa using hik
        have HFI : Hid (fitsV xs d ls[i] v.ks[i] = true) := HZA.out i hil hik
        have HMK : Hid (v.ks[i] ∈ v.ks) := List.getElem_mem hik
        have HNI : Hid (nodes v.ks[i] ≤ 60) := HKN60.out _ HMK.out
        have HTI := Lib.hid (HAI.out _ (List.getElem_mem hil))
        have HZ0' := Lib.hid (vsB_succ xs d ls v.ks i hil hik)
        obtain ⟨Z, hZ⟩ : ∃ z, bs (vT xs d ls[i] v.ks[i]) = z := ⟨_, rfl⟩
        have HZ := Lib.hid hZ
        have HSU : Hid (vsB xs d ls v.ks (i + 1) = vsB xs d ls v.ks i ++ [Z]) := by rw [← HZ.out]; exact HZ0'.out
        clear hZ HZ0'
        have hlm := vsB_len xs d ls v.ks i
        have hmx : (vsB xs d ls v.ks i).length + 1 ≤ maxLen := by unfold maxLen; omega
        have hby : ((vsB xs d ls v.ks i).length + 1) * 16 ≤ 140737488355328 := by omega
        have hbe : Below wr.heap.size wr (wr.alloc (.cells #[.int .i64 v.ks[i].c, .int .i64 v.ks[i].n, .slice A7 v.ks[i].ks.length cap7] 28)) := (Below.refl _ _).alloc (Nat.le_refl _) _
        have HOq : Hid (Own (wr.alloc (.cells #[.int .i64 v.ks[i].c, .int .i64 v.ks[i].n, .slice A7 v.ks[i].ks.length cap7] 28)) w6.heap.size 9 1 StrR (vsB xs d ls v.ks i) u8 []) := HO.out.below (fun x cs G hk h => StrR_mono _ _ x cs G hk h) hbe
        have hBq : Below w6.heap.size w6 (wr.alloc (.cells #[.int .i64 v.ks[i].c, .int .i64 v.ks[i].n, .slice A7 v.ks[i].ks.length cap7] 28)) := hBr.trans (hbe.mono hBr.size)
        have hBwq : Below w.heap.size w (wr.alloc (.cells #[.int .i64 v.ks[i].c, .int .i64 v.ks[i].n, .slice A7 v.ks[i].ks.length cap7] 28)) := hBw0.trans (hbe.mono hBw0.size)
        have KD : Hid (Blk (wr.alloc (.cells #[.int .i64 v.ks[i].c, .int .i64 v.ks[i].n, .slice A7 v.ks[i].ks.length cap7] 28)) wr.heap.size 28 #[.int .i64 v.ks[i].c, .int .i64 v.ks[i].n, .slice A7 v.ks[i].ks.length cap7]) := Blk.new _ _ _
        have HKN : Hid (wr.heap.size ∉ rowOf u8) := fun h => Nat.lt_irrefl _ (HO.out.row _ h).2
        obtain ⟨kA, kcap, hkv, -, -⟩ := HO.out.form
        subst hkv
        go_wp2_with fail
        clear k0 k1 k2 hb7
        generalize (wr.alloc (.cells #[.int .i64 v.ks[i].c, .int .i64 v.ks[i].n, .slice A7 v.ks[i].ks.length cap7] 28)) = wq at *
        generalize wr.heap.size = kd at *
        obtain ⟨hb6q, a0, a1⟩ := ArrTy.at HA6.out HU6.out hBq i hil
        have hb6l : b6 < w6.heap.size := ArrTy_lt HA6.out HU6.out i hil
        have k0 := (KD.out.cell 0).trans (show _ = some (.int .i64 v.ks[i].c) from by simp)
        have k1 := (KD.out.cell 1).trans (show _ = some (.int .i64 v.ks[i].n) from by simp)
        have k2 := (KD.out.cell 2).trans (show _ = some (.slice A7 v.ks[i].ks.length cap7) from by simp)
        have klt := KD.out.lt
        have hBw : Below w.heap.size w wq.drew := hBwq.drew
        have HS : Hid (∀ C : World, Below wq.heap.size wq C → (C.cell? ⟨b6, off6 + i * 2, none⟩ = some (.int .i64 ls[i].d) ∧ C.cell? ⟨b6, off6 + i * 2 + 1, none⟩ = some (.int .i64 ls[i].i) ∧ C.cell? ⟨kd, 0, none⟩ = some (.int .i64 v.ks[i].c) ∧ C.cell? ⟨kd, 1, none⟩ = some (.int .i64 v.ks[i].n) ∧ C.cell? ⟨kd, 2, none⟩ = some (.slice A7 v.ks[i].ks.length cap7))) := fun C hb => ⟨(hb.cell (hb6q)).trans a0, (hb.cell (hb6q)).trans a1, (hb.cell (klt)).trans k0, (hb.cell (klt)).trans k1, (hb.cell (klt)).trans k2⟩
        have hC0 : Below wq.heap.size wq wq.drew := (Below.refl _ _).drew
        refine wp_region_B (S := fun w' => w'.cell? ⟨b6, off6 + i * 2, none⟩ = some (.int .i64 ls[i].d) ∧ w'.cell? ⟨b6, off6 + i * 2 + 1, none⟩ = some (.int .i64 ls[i].i) ∧ w'.cell? ⟨kd, 0, none⟩ = some (.int .i64 v.ks[i].c) ∧ w'.cell? ⟨kd, 1, none⟩ = some (.int .i64 v.ks[i].n) ∧ w'.cell? ⟨kd, 2, none⟩ = some (.slice A7 v.ks[i].ks.length cap7)) (T := fun _ => True) (d := 99) (by kernel_rfl) ?_
        obtain ⟨wd, hwd⟩ : ∃ X, X = wq.drew := ⟨_, rfl⟩
        rw [← hwd] at hC0 hBw  ⊢
        clear hwd
        have hS0 := HS.out _ hC0
        have hT0 : True := trivial
        refine wpAnyB_take (i := 0) (v := ?_) rfl (by decide) (by kernel_rfl) (by kernel_rfl) (by kernel_rfl) (fun _ _ _ h => h) (Or.inl ⟨by rfl, ?hy0⟩) hS0 (fun _ => hT0) ?_
        case hy0 => (intro W hSw; (try dsimp only at hSw); (try obtain ⟨hSw0, hSw1, hSw2, hSw3, hSw4⟩ := hSw); go_simp; try with_reducible rfl)
        (try simp only [Act.put, List.getElem_toArray, List.getElem_cons_zero, List.getElem_cons_succ, List.setIfInBounds_toArray, List.set_cons_zero, List.set_cons_succ])
        refine wpAnyB_take (i := 1) (v := ?_) rfl (by decide) (by kernel_rfl) (by kernel_rfl) (by kernel_rfl) (fun _ _ _ h => h) (Or.inl ⟨by rfl, ?hy1⟩) hS0 (fun _ => hT0) ?_
        case hy1 => (intro W hSw; (try dsimp only at hSw); (try obtain ⟨hSw0, hSw1, hSw2, hSw3, hSw4⟩ := hSw); go_simp; try with_reducible rfl)
        (try simp only [Act.put, List.getElem_toArray, List.getElem_cons_zero, List.getElem_cons_succ, List.setIfInBounds_toArray, List.set_cons_zero, List.set_cons_succ])
        refine wpAnyB_take (i := 2) (v := ?_) rfl (by decide) (by kernel_rfl) (by kernel_rfl) (by kernel_rfl) (fun _ _ _ h => h) (Or.inl ⟨by rfl, ?hy2⟩) hS0 (fun _ => hT0) ?_
        case hy2 => (intro W hSw; (try dsimp only at hSw); (try obtain ⟨hSw0, hSw1, hSw2, hSw3, hSw4⟩ := hSw); go_simp; try with_reducible rfl)
        (try simp only [Act.put, List.getElem_toArray, List.getElem_cons_zero, List.getElem_cons_succ, List.setIfInBounds_toArray, List.set_cons_zero, List.set_cons_succ])
        refine wpAnyB_take (i := 3) (v := ?_) rfl (by decide) (by kernel_rfl) (by kernel_rfl) (by kernel_rfl) (fun _ _ _ h => h) (Or.inl ⟨by rfl, ?hy3⟩) hS0 (fun _ => hT0) ?_
        case hy3 => (intro W hSw; (try dsimp only at hSw); (try obtain ⟨hSw0, hSw1, hSw2, hSw3, hSw4⟩ := hSw); go_simp; try with_reducible rfl)
        (try simp only [Act.put, List.getElem_toArray, List.getElem_cons_zero, List.getElem_cons_succ, List.setIfInBounds_toArray, List.set_cons_zero, List.set_cons_succ])
        refine wpAnyB_take (i := 4) (v := ?_) rfl (by decide) (by kernel_rfl) (by kernel_rfl) (by kernel_rfl) (fun _ _ _ h => h) (Or.inl ⟨by rfl, ?hy4⟩) hS0 (fun _ => hT0) ?_
        case hy4 => (intro W hSw; (try dsimp only at hSw); (try obtain ⟨hSw0, hSw1, hSw2, hSw3, hSw4⟩ := hSw); go_simp; try with_reducible rfl)
        (try simp only [Act.put, List.getElem_toArray, List.getElem_cons_zero, List.getElem_cons_succ, List.setIfInBounds_toArray, List.set_cons_zero, List.set_cons_succ])
        refine wpAnyB_take (i := 5) (v := ?_) rfl (by decide) (by kernel_rfl) (by kernel_rfl) (by kernel_rfl) (fun _ _ _ h => h) (Or.inl ⟨by rfl, ?hy5⟩) hS0 (fun _ => hT0) ?_
        case hy5 => (intro W hSw; (try dsimp only at hSw); (try obtain ⟨hSw0, hSw1, hSw2, hSw3, hSw4⟩ := hSw); go_simp; try with_reducible rfl)
        (try simp only [Act.put, List.getElem_toArray, List.getElem_cons_zero, List.getElem_cons_succ, List.setIfInBounds_toArray, List.set_cons_zero, List.set_cons_succ])
        refine wpAnyB_take (i := 6) (v := ?_) rfl (by decide) (by kernel_rfl) (by kernel_rfl) (by kernel_rfl) (fun _ _ _ h => h) (Or.inl ⟨by rfl, ?hy6⟩) hS0 (fun _ => hT0) ?_
        case hy6 => (intro W hSw; (try dsimp only at hSw); (try obtain ⟨hSw0, hSw1, hSw2, hSw3, hSw4⟩ := hSw); go_simp; try with_reducible rfl)
        (try simp only [Act.put, List.getElem_toArray, List.getElem_cons_zero, List.getElem_cons_succ, List.setIfInBounds_toArray, List.set_cons_zero, List.set_cons_succ])
        refine wpAnyB_ready (rs := [7]) (by kernel_rfl) (by simp) ?_
        refine AllReadyB.cons rfl (fun K hK => ?_) AllReadyB.nil
        go_simp
        go_at_call 9
        refine (IH.out v.ks[i] HMK.out xs HW.out d (by omega) ls[i] HTI.out HFI.out HNI.out wd _ F _ G7 (ArrDt.below HX.out hBw HF.out) (HF.out.mono hBw.size) (HV7.out.below hBw HG7.out) (HG7.out.mono hBw.size)).mono ?_
        rintro e w4 ⟨rfl, hb4⟩
        have hC1 : Below wq.heap.size wq w4 := hC0.trans (hb4.mono hC0.size)
        have hS1 := HS.out _ hC1
        rw [HZ.out]
        (try dsimp only)
        refine hK.out _ _ hS1 (fun _ => trivial) ?_
        clear hK K
        (try simp only [Act.put, List.getElem_toArray, List.getElem_cons_zero, List.getElem_cons_succ, List.setIfInBounds_toArray, List.set_cons_zero, List.set_cons_succ])
        have HO5 : Hid (Own w4 w6.heap.size 9 1 StrR (vsB xs d ls v.ks i) (.slice kA (vsB xs d ls v.ks i).length kcap) []) := HOq.out.below (fun x cs G hk h => StrR_mono _ _ x cs G hk h) (hC1)
        have hB5 : Below w6.heap.size w6 w4 := hBq.trans (hC1.mono hBq.size)
        have hbs5 : w6.heap.size ≤ w4.heap.size := hB5.size
        have hb6w : b6 < w4.heap.size := Nat.lt_of_lt_of_le hb6q hC1.size
        have klt4 : kd < w4.heap.size := Nat.lt_of_lt_of_le klt hC1.size
        refine wpAnyB_ready (rs := [8]) (by kernel_rfl) (by simp) ?_
        refine AllReadyB.cons rfl (fun K hK => ?_) AllReadyB.nil
        go_simp
        have hSa : (w4.alloc (.cells #[.string Z] 9)).cell? ⟨b6, off6 + i * 2, none⟩ = some (.int .i64 ls[i].d) ∧ (w4.alloc (.cells #[.string Z] 9)).cell? ⟨b6, off6 + i * 2 + 1, none⟩ = some (.int .i64 ls[i].i) ∧ (w4.alloc (.cells #[.string Z] 9)).cell? ⟨kd, 0, none⟩ = some (.int .i64 v.ks[i].c) ∧ (w4.alloc (.cells #[.string Z] 9)).cell? ⟨kd, 1, none⟩ = some (.int .i64 v.ks[i].n) ∧ (w4.alloc (.cells #[.string Z] 9)).cell? ⟨kd, 2, none⟩ = some (.slice A7 v.ks[i].ks.length cap7) := ⟨(World.cell?_alloc_lt _ _ _ hb6w).trans hS1.1, (World.cell?_alloc_lt _ _ _ hb6w).trans hS1.2.1, (World.cell?_alloc_lt _ _ _ klt4).trans hS1.2.2.1, (World.cell?_alloc_lt _ _ _ klt4).trans hS1.2.2.2.1, (World.cell?_alloc_lt _ _ _ klt4).trans hS1.2.2.2.2⟩
        refine hK.out _ _ hSa (fun _ => trivial) ?_
        clear hK K
        (try simp only [Act.put, List.getElem_toArray, List.getElem_cons_zero, List.getElem_cons_succ, List.setIfInBounds_toArray, List.set_cons_zero, List.set_cons_succ])
        refine wpAnyB_ready (rs := [9]) (by kernel_rfl) (by simp) ?_
        refine AllReadyB.cons rfl (fun K hK => ?_) AllReadyB.nil
        refine step_push1 (P := Tryd.prog) rfl _ _ 45 rfl i0 _ 16 Tryd.underlying45 HI.out HZ0.out HZ1.out HZ2.out rfl Nat.zero_lt_one StrR_len StrR_mono (by rfl) HO5.out Z 9 [.string Z] [] _ (by rfl) rfl (by simp [Value.oneCell']) ⟨rfl, rfl⟩ (Under.nil _) (fun _ _ h => by cases h) hmx hby hbs5 ?_
        intro g cp w8 hown8 hgr8 hat8
        have hrow := HO5.out.row
        have hB8 : Below w6.heap.size w6 w8 := (hB5.alloc hbs5 _).grown hgr8 (by simp; omega) (fun g hg => (hrow g (mem_rowOf.2 hg)).1)
        have l7 : w4.heap.size ≤ (w4.alloc (.cells #[.string Z] 9)).heap.size := by rw [World.size_alloc]; exact Nat.le_succ _
        have hnb6 : some b6 ≠ (Value.slice kA (vsB xs d ls v.ks i).length kcap).ownBlock := fun e => by
          have := (hrow b6 (mem_rowOf.2 e.symm)).1; omega
        have hnkd : some kd ≠ (Value.slice kA (vsB xs d ls v.ks i).length kcap).ownBlock := fun e => HKN.out (mem_rowOf.2 e.symm)
        have hfar : ∀ p : Addr, p.block < w4.heap.size → some p.block ≠ (Value.slice kA (vsB xs d ls v.ks i).length kcap).ownBlock → w8.cell? p = w4.cell? p := fun p h1 h2 => (World.grownBy.cell_far hgr8 p (Nat.lt_of_lt_of_le h1 l7) h2).trans (World.cell?_alloc_lt _ _ _ h1)
        have hS8 : w8.cell? ⟨b6, off6 + i * 2, none⟩ = some (.int .i64 ls[i].d) ∧ w8.cell? ⟨b6, off6 + i * 2 + 1, none⟩ = some (.int .i64 ls[i].i) ∧ w8.cell? ⟨kd, 0, none⟩ = some (.int .i64 v.ks[i].c) ∧ w8.cell? ⟨kd, 1, none⟩ = some (.int .i64 v.ks[i].n) ∧ w8.cell? ⟨kd, 2, none⟩ = some (.slice A7 v.ks[i].ks.length cap7) := ⟨(hfar ⟨b6, off6 + i * 2, none⟩ hb6w hnb6).trans hS1.1, (hfar ⟨b6, off6 + i * 2 + 1, none⟩ hb6w hnb6).trans hS1.2.1, (hfar ⟨kd, 0, none⟩ klt4 hnkd).trans hS1.2.2.1, (hfar ⟨kd, 1, none⟩ klt4 hnkd).trans hS1.2.2.2.1, (hfar ⟨kd, 2, none⟩ klt4 hnkd).trans hS1.2.2.2.2⟩
        have HO8 := Lib.hid hown8
        refine hK.out _ _ hS8 (fun _ => trivial) ?_
        clear hK K
        (try simp only [Act.put, List.getElem_toArray, List.getElem_cons_zero, List.getElem_cons_succ, List.setIfInBounds_toArray, List.set_cons_zero, List.set_cons_succ])
        refine wpAnyB_take (i := 10) (v := ?_) rfl (by decide) (by kernel_rfl) (by kernel_rfl) (by kernel_rfl) (fun _ _ _ h => h) (Or.inl ⟨by rfl, ?hy10⟩) hS8 (fun _ => hT0) ?_
        case hy10 => (intro W hSw; (try dsimp only at hSw); (try obtain ⟨hSw0, hSw1, hSw2, hSw3, hSw4⟩ := hSw); go_simp; try with_reducible rfl)
        (try simp only [Act.put, List.getElem_toArray, List.getElem_cons_zero, List.getElem_cons_succ, List.setIfInBounds_toArray, List.set_cons_zero, List.set_cons_succ])
        refine wpAnyB_end (by kernel_rfl) ?_
        clear hS0 hS1 hS8 hT0 hfar hnkd hnb6 l7 hrow hgr8 hat8 hown8 hbe hb4 HO5 hB5 HOq hBq hBwq hBw HS hC0 hC1
        go_wp2
        go_roundw
        case rel => exact ⟨i + 1, hik, by go_num, by rw [HSU.out]; exact HO8.out, hB8⟩
        case measure => (simp [intOf] <;> omega)
      · have e1 : decide (i < v.ks.length) = false := by simpa using hik
        have hta := vsB_all xs d ls v.ks (i := i) (by have := HLN.out; omega) (by omega)
        obtain ⟨SS, hSS⟩ : ∃ s, s = (List.zipWith (vT xs d) ls v.ks).map bs := ⟨_, rfl⟩
        rw [← hSS] at hta HVT
        have HAR : Hid (Arr wr (StrR wr) SS u8 (if vsB xs d ls v.ks i = [] then [] else rowOf u8 ++ [])) := by rw [← hta]; exact HO.out.arr
        have HRW := Lib.hid HO.out.row
        have HUA : Hid (Under wr.heap.size (if vsB xs d ls v.ks i = [] then [] else rowOf u8 ++ [])) := fun b hb => by
          split at hb
          · cases hb
          · rw [List.append_nil] at hb; exact (HRW.out b hb).2
        have hsl : SS.length ≤ 1000 := by rw [← hta]; have := vsB_len xs d ls v.ks i; omega
        have HSL := Lib.hid hsl
        generalize (if vsB xs d ls v.ks i = [] then [] else rowOf u8 ++ []) = FA at HAR HUA
        have hl4 := HL5.out
        rw [HVT.out, List.length_append] at hl4
        have hjl := join_le SS
        have HSJ : Hid ((Lib.join (SS.map tl) [44]).length ≤ 1000000) := by unfold Hid; omega
        have hll : (bs (listedT SS)).size ≤ 480 := by rw [bs_size]; omega
        obtain ⟨L, hL⟩ : ∃ l, bs (listedT SS) = l := ⟨_, rfl⟩
        rw [hL] at hll
        have HL := Lib.hid hL
        have hf : Hid (bs (vT xs (d + 1) ⟨(q : Int), (r : Int)⟩ v) = xs[q].ctors[k].name ++ L) := by unfold Hid; rw [HVT.out, bs_app, HL.out]
        clear hL hta HO hSS hl4 hjl hsl HRW
        have s1 : xs[q].ctors[k].name.size + L.size ≤ 9223372036854775807 := by omega
        have s2 : (xs[q].ctors[k].name.size : Int) + (L.size : Int) ≤ 9223372036854775807 := by omega
        have s3 : ¬ 9223372036854775807 < xs[q].ctors[k].name.size + L.size := by omega
        clear hll hn5
        obtain ⟨b, off, rfl⟩ := HX.out.ptr (by omega)
        obtain ⟨A1, cap1, G1, hbA, n0, n1, HK, HG1, -, hn1, hn2⟩ := ArrDt.at HX.out HF.out hBw0 q hql
        obtain ⟨b3, off3, rfl⟩ := HK.out.ptr (by omega)
        obtain ⟨A9, cap9, G9, hb9, p0, p1, p2, HT9, HTG9, -, -, -⟩ := ArrKt.at HK.out HG1.out hBw0 k hkl
        have g1 : (0 : Int) ≤ (q : Int) := by omega
        have g2 : (q : Int) < (xs.length : Int) := by omega
        have g3 : (0 : Int) ≤ (k : Int) := by omega
        have g4 : (k : Int) < (xs[q].ctors.length : Int) := by omega
        have KTr := Lib.hid (KT6.out.same (hBr.block _ KT6.out.lt))
        have KVr := Lib.hid (KV6.out.same (hBr.block _ KV6.out.lt))
        have y0 : wr.cell? ⟨w.heap.size, 0, none⟩ = some (.int .i64 (q : Int)) := (KTr.out.cell 0).trans (by simp)
        have x0 : wr.cell? ⟨w.heap.size + 1, 0, none⟩ = some (.int .i64 (k : Int)) := (KVr.out.cell 0).trans (by simp [HVC.out])
        have klt := KTr.out.lt
        have klt2 := KVr.out.lt
        have HUAd : Hid (Under wr.drew.heap.size FA) := HUA.out
        have HARd : Hid (Arr wr.drew (StrR wr.drew) SS u8 FA) := ArrStr.mono HAR.out (fun _ _ => rfl)
        clear n0 p1 p2 HAR HUA
        go_wp2_with fail
        have HS : Hid (∀ C : World, Below wr.heap.size wr C → (C.cell? ⟨w.heap.size, 0, none⟩ = some (.int .i64 (q : Int)) ∧ C.cell? ⟨b, off + q * 2 + 1, none⟩ = some (.slice (some ⟨b3, off3, none⟩) xs[q].ctors.length cap1) ∧ C.cell? ⟨w.heap.size + 1, 0, none⟩ = some (.int .i64 (k : Int)) ∧ C.cell? ⟨b3, off3 + k * 3, none⟩ = some (.string xs[q].ctors[k].name))) := fun C hb => ⟨(hb.cell (klt)).trans y0, (hb.cell (hbA)).trans n1, (hb.cell (klt2)).trans x0, (hb.cell (hb9)).trans p0⟩
        have hC0 : Below wr.heap.size wr wr.drew := (Below.refl _ _).drew
        refine wp_region_B (S := fun w' => w'.cell? ⟨w.heap.size, 0, none⟩ = some (.int .i64 (q : Int)) ∧ w'.cell? ⟨b, off + q * 2 + 1, none⟩ = some (.slice (some ⟨b3, off3, none⟩) xs[q].ctors.length cap1) ∧ w'.cell? ⟨w.heap.size + 1, 0, none⟩ = some (.int .i64 (k : Int)) ∧ w'.cell? ⟨b3, off3 + k * 3, none⟩ = some (.string xs[q].ctors[k].name)) (T := fun _ => True) (d := 99) (by kernel_rfl) ?_
        obtain ⟨wd, hwd⟩ : ∃ X, X = wr.drew := ⟨_, rfl⟩
        rw [← hwd] at hC0 HARd HUAd  ⊢
        clear hwd
        have hS0 := HS.out _ hC0
        have hT0 : True := trivial
        refine wpAnyB_take (i := 0) (v := ?_) rfl (by decide) (by kernel_rfl) (by kernel_rfl) (by kernel_rfl) (fun _ _ _ h => h) (Or.inl ⟨by rfl, ?hy0⟩) hS0 (fun _ => hT0) ?_
        case hy0 => (intro W hSw; (try dsimp only at hSw); (try obtain ⟨hSw0, hSw1, hSw2, hSw3⟩ := hSw); go_simp; try with_reducible rfl)
        (try simp only [Act.put, List.getElem_toArray, List.getElem_cons_zero, List.getElem_cons_succ, List.setIfInBounds_toArray, List.set_cons_zero, List.set_cons_succ])
        refine wpAnyB_take (i := 1) (v := ?_) rfl (by decide) (by kernel_rfl) (by kernel_rfl) (by kernel_rfl) (fun _ _ _ h => h) (Or.inl ⟨by rfl, ?hy1⟩) hS0 (fun _ => hT0) ?_
        case hy1 => (intro W hSw; (try dsimp only at hSw); (try obtain ⟨hSw0, hSw1, hSw2, hSw3⟩ := hSw); go_simp; try with_reducible rfl)
        (try simp only [Act.put, List.getElem_toArray, List.getElem_cons_zero, List.getElem_cons_succ, List.setIfInBounds_toArray, List.set_cons_zero, List.set_cons_succ])
        refine wpAnyB_take (i := 2) (v := ?_) rfl (by decide) (by kernel_rfl) (by kernel_rfl) (by kernel_rfl) (fun _ _ _ h => h) (Or.inl ⟨by rfl, ?hy2⟩) hS0 (fun _ => hT0) ?_
        case hy2 => (intro W hSw; (try dsimp only at hSw); (try obtain ⟨hSw0, hSw1, hSw2, hSw3⟩ := hSw); go_simp; try with_reducible rfl)
        (try simp only [Act.put, List.getElem_toArray, List.getElem_cons_zero, List.getElem_cons_succ, List.setIfInBounds_toArray, List.set_cons_zero, List.set_cons_succ])
        refine wpAnyB_take (i := 3) (v := ?_) rfl (by decide) (by kernel_rfl) (by kernel_rfl) (by kernel_rfl) (fun _ _ _ h => h) (Or.inl ⟨by rfl, ?hy3⟩) hS0 (fun _ => hT0) ?_
        case hy3 => (intro W hSw; (try dsimp only at hSw); (try obtain ⟨hSw0, hSw1, hSw2, hSw3⟩ := hSw); go_simp; try with_reducible rfl)
        (try simp only [Act.put, List.getElem_toArray, List.getElem_cons_zero, List.getElem_cons_succ, List.setIfInBounds_toArray, List.set_cons_zero, List.set_cons_succ])
        refine wpAnyB_take (i := 4) (v := ?_) rfl (by decide) (by kernel_rfl) (by kernel_rfl) (by kernel_rfl) (fun _ _ _ h => h) (Or.inl ⟨by rfl, ?hy4⟩) hS0 (fun _ => hT0) ?_
        case hy4 => (intro W hSw; (try dsimp only at hSw); (try obtain ⟨hSw0, hSw1, hSw2, hSw3⟩ := hSw); go_simp; try with_reducible rfl)
        (try simp only [Act.put, List.getElem_toArray, List.getElem_cons_zero, List.getElem_cons_succ, List.setIfInBounds_toArray, List.set_cons_zero, List.set_cons_succ])
        refine wpAnyB_take (i := 5) (v := ?_) rfl (by decide) (by kernel_rfl) (by kernel_rfl) (by kernel_rfl) (fun _ _ _ h => h) (Or.inl ⟨by rfl, ?hy5⟩) hS0 (fun _ => hT0) ?_
        case hy5 => (intro W hSw; (try dsimp only at hSw); (try obtain ⟨hSw0, hSw1, hSw2, hSw3⟩ := hSw); go_simp; try with_reducible rfl)
        (try simp only [Act.put, List.getElem_toArray, List.getElem_cons_zero, List.getElem_cons_succ, List.setIfInBounds_toArray, List.set_cons_zero, List.set_cons_succ])
        refine wpAnyB_take (i := 6) (v := ?_) rfl (by decide) (by kernel_rfl) (by kernel_rfl) (by kernel_rfl) (fun _ _ _ h => h) (Or.inl ⟨by rfl, ?hy6⟩) hS0 (fun _ => hT0) ?_
        case hy6 => (intro W hSw; (try dsimp only at hSw); (try obtain ⟨hSw0, hSw1, hSw2, hSw3⟩ := hSw); go_simp; try with_reducible rfl)
        (try simp only [Act.put, List.getElem_toArray, List.getElem_cons_zero, List.getElem_cons_succ, List.setIfInBounds_toArray, List.set_cons_zero, List.set_cons_succ])
        refine wpAnyB_take (i := 7) (v := ?_) rfl (by decide) (by kernel_rfl) (by kernel_rfl) (by kernel_rfl) (fun _ _ _ h => h) (Or.inl ⟨by rfl, ?hy7⟩) hS0 (fun _ => hT0) ?_
        case hy7 => (intro W hSw; (try dsimp only at hSw); (try obtain ⟨hSw0, hSw1, hSw2, hSw3⟩ := hSw); go_simp; try with_reducible rfl)
        (try simp only [Act.put, List.getElem_toArray, List.getElem_cons_zero, List.getElem_cons_succ, List.setIfInBounds_toArray, List.set_cons_zero, List.set_cons_succ])
        refine wpAnyB_take (i := 8) (v := ?_) rfl (by decide) (by kernel_rfl) (by kernel_rfl) (by kernel_rfl) (fun _ _ _ h => h) (Or.inl ⟨by rfl, ?hy8⟩) hS0 (fun _ => hT0) ?_
        case hy8 => (intro W hSw; (try dsimp only at hSw); (try obtain ⟨hSw0, hSw1, hSw2, hSw3⟩ := hSw); go_simp; try with_reducible rfl)
        (try simp only [Act.put, List.getElem_toArray, List.getElem_cons_zero, List.getElem_cons_succ, List.setIfInBounds_toArray, List.set_cons_zero, List.set_cons_succ])
        refine wpAnyB_take (i := 9) (v := ?_) rfl (by decide) (by kernel_rfl) (by kernel_rfl) (by kernel_rfl) (fun _ _ _ h => h) (Or.inl ⟨by rfl, ?hy9⟩) hS0 (fun _ => hT0) ?_
        case hy9 => (intro W hSw; (try dsimp only at hSw); (try obtain ⟨hSw0, hSw1, hSw2, hSw3⟩ := hSw); go_simp; try with_reducible rfl)
        (try simp only [Act.put, List.getElem_toArray, List.getElem_cons_zero, List.getElem_cons_succ, List.setIfInBounds_toArray, List.set_cons_zero, List.set_cons_succ])
        refine wpAnyB_take (i := 10) (v := ?_) rfl (by decide) (by kernel_rfl) (by kernel_rfl) (by kernel_rfl) (fun _ _ _ h => h) (Or.inl ⟨by rfl, ?hy10⟩) hS0 (fun _ => hT0) ?_
        case hy10 => (intro W hSw; (try dsimp only at hSw); (try obtain ⟨hSw0, hSw1, hSw2, hSw3⟩ := hSw); go_simp; try with_reducible rfl)
        (try simp only [Act.put, List.getElem_toArray, List.getElem_cons_zero, List.getElem_cons_succ, List.setIfInBounds_toArray, List.set_cons_zero, List.set_cons_succ])
        refine wpAnyB_take (i := 11) (v := ?_) rfl (by decide) (by kernel_rfl) (by kernel_rfl) (by kernel_rfl) (fun _ _ _ h => h) (Or.inl ⟨by rfl, ?hy11⟩) hS0 (fun _ => hT0) ?_
        case hy11 => (intro W hSw; (try dsimp only at hSw); (try obtain ⟨hSw0, hSw1, hSw2, hSw3⟩ := hSw); go_simp; try with_reducible rfl)
        (try simp only [Act.put, List.getElem_toArray, List.getElem_cons_zero, List.getElem_cons_succ, List.setIfInBounds_toArray, List.set_cons_zero, List.set_cons_succ])
        refine wpAnyB_ready (rs := [12]) (by kernel_rfl) (by simp) ?_
        refine AllReadyB.cons rfl (fun K hK => ?_) AllReadyB.nil
        go_simp
        go_at_call 22
        refine (impl_listed SS HSL.out HSJ.out wd _ FA HARd.out HUAd.out).mono ?_
        rintro e w4 ⟨rfl, hb4⟩
        have hC1 : Below wr.heap.size wr w4 := hC0.trans (hb4.mono hC0.size)
        have hS1 := HS.out _ hC1
        rw [HL.out]
        (try dsimp only)
        refine hK.out _ _ hS1 (fun _ => trivial) ?_
        clear hK K
        (try simp only [Act.put, List.getElem_toArray, List.getElem_cons_zero, List.getElem_cons_succ, List.setIfInBounds_toArray, List.set_cons_zero, List.set_cons_succ])
        refine wpAnyB_ready (rs := [13]) (by kernel_rfl) (by simp) ?_
        refine AllReadyB.cons rfl (fun K hK => ?_) AllReadyB.nil
        go_simp
        refine hK.out _ _ hS1 (fun _ => trivial) ?_
        clear hK K
        (try simp only [Act.put, List.getElem_toArray, List.getElem_cons_zero, List.getElem_cons_succ, List.setIfInBounds_toArray, List.set_cons_zero, List.set_cons_succ])
        refine wpAnyB_take (i := 14) (v := ?_) rfl (by decide) (by kernel_rfl) (by kernel_rfl) (by kernel_rfl) (fun _ _ _ h => h) (Or.inl ⟨by rfl, ?hy14⟩) hS1 (fun _ => hT0) ?_
        case hy14 => (intro W hSw; (try dsimp only at hSw); (try obtain ⟨hSw0, hSw1, hSw2, hSw3⟩ := hSw); go_simp; try with_reducible rfl)
        (try simp only [Act.put, List.getElem_toArray, List.getElem_cons_zero, List.getElem_cons_succ, List.setIfInBounds_toArray, List.set_cons_zero, List.set_cons_succ])
        refine wpAnyB_end (by kernel_rfl) ?_
        have hB9 : Below w.heap.size w w4 := hBw0.trans (hC1.mono hBw0.size)
        clear hS0 hS1 hT0 HS hC0 hC1
        go_wp2
        go_ret
        exact ⟨ret_str hf.out.symm, hB9⟩
theorem impl_valueText : ∀ v, TxtI v := V.indv valueText_of
set_option maxRecDepth 100000 in
set_option maxHeartbeats 1600000 in
theorem impl_FormatValue (xs : List Dt) (t : Ty) (v : V) (w : World) (x : Value) (F : List Nat) (cs : List Value) (G : List Nat) (hx : Arr w (DtR w) xs x F) (hf : Under w.heap.size F) (hv : VR w v cs G) (hg : Under w.heap.size G) (hz : v.size ≤ 1048576) :
    Calls Tryd.prog 5 #[x, .agg #[.int .i64 t.d, .int .i64 t.i], .agg cs.toArray] w fun e w' => e = .returned (.string (fmtV xs t v)) ∧ Below w.heap.size w w' := by
  obtain ⟨kv, rfl, ha⟩ := (VR_iff _ _ _).1 hv
  obtain ⟨A, cap, rfl, hc1, hc2⟩ := hx.form
  obtain ⟨A4, cap4, rfl, hc3, hc4⟩ := ha.form
  have HX := Lib.hid hx
  have HF := Lib.hid hf
  have HV := Lib.hid hv
  have HG := Lib.hid hg
  clear hx hf hv hg
  clear ha
  go_enter Tryd.func5, Tryd.ntmps5
  go_wp2_with fail
  obtain ⟨W2, hW2⟩ : ∃ W2, W2 = ((w.alloc (.cells #[.int .i64 t.d, .int .i64 t.i] 25)).alloc (.cells #[.int .i64 v.c, .int .i64 v.n, .slice A4 v.ks.length cap4] 28)) := ⟨_, rfl⟩
  have hB0 : Below w.heap.size w W2 := by rw [hW2]; exact ((Below.refl _ _).alloc (Nat.le_refl _) _).alloc (by simp) _
  have KT : Hid (Blk W2 w.heap.size 25 #[.int .i64 t.d, .int .i64 t.i]) := by rw [hW2]; exact (Blk.new w _ _).same (Below.heap_alloc _ _ _ (by simp))
  have KV : Hid (Blk W2 (w.heap.size + 1) 28 #[.int .i64 v.c, .int .i64 v.n, .slice A4 v.ks.length cap4]) := by rw [hW2]; have h := Blk.new (w.alloc (.cells #[.int .i64 t.d, .int .i64 t.i] 25)) 28 #[.int .i64 v.c, .int .i64 v.n, .slice A4 v.ks.length cap4]; rw [World.size_alloc] at h; exact h
  rw [← hW2]
  clear hW2
  refine (impl_ValueValid xs t v W2 _ F _ G (ArrDt.below HX.out hB0 HF.out) (HF.out.mono hB0.size) (HV.out.below hB0 HG.out) (HG.out.mono hB0.size) hz).mono ?_
  rintro e w1 ⟨rfl, hb1⟩
  have hB1 := hB0.trans (hb1.mono hB0.size)
  have KT1 := Lib.hid (KT.out.same (hb1.block _ KT.out.lt))
  have KV1 := Lib.hid (KV.out.same (hb1.block _ KV.out.lt))
  have y0 : w1.cell? ⟨w.heap.size, 0, none⟩ = some (.int .i64 t.d) := (KT1.out.cell 0).trans (by simp)
  have y1 : w1.cell? ⟨w.heap.size, 1, none⟩ = some (.int .i64 t.i) := (KT1.out.cell 1).trans (by simp)
  have x0 : w1.cell? ⟨w.heap.size + 1, 0, none⟩ = some (.int .i64 v.c) := (KV1.out.cell 0).trans (by simp)
  have x1 : w1.cell? ⟨w.heap.size + 1, 1, none⟩ = some (.int .i64 v.n) := (KV1.out.cell 1).trans (by simp)
  have x2 : w1.cell? ⟨w.heap.size + 1, 2, none⟩ = some (.slice A4 v.ks.length cap4) := (KV1.out.cell 2).trans (by simp)
  have klt := KT1.out.lt
  have klt2 := KV1.out.lt
  cases q0 : valueValidB xs t v with
  | false =>
    have hf : Hid (fmtV xs t v = ⟨#[]⟩) := if_neg (by simp [q0])
    clear q0
    go_wp2
    go_ret
    exact ⟨ret_str hf.out.symm, hB1⟩
  | true =>
    have hf : Hid (fmtV xs t v = bs (vT xs 10 t v)) := if_pos q0
    obtain ⟨h1, h2, h3, h4⟩ := valid_parts q0
    have H1 := Lib.hid h1
    have H2 := Lib.hid h2
    have H3 := Lib.hid h3
    have H4 := Lib.hid h4
    clear h1 h2 h3 h4
    clear q0
    go_wp2_with fail
    refine (impl_valueText v xs H1.out 10 (Nat.le_refl _) t H2.out H3.out H4.out w1 _ F _ G (ArrDt.below HX.out hB1 HF.out) (HF.out.mono hB1.size) (HV.out.below hB1 HG.out) (HG.out.mono hB1.size)).mono ?_
    rintro e w2 ⟨rfl, hb2⟩
    have hB2 := hB1.trans (hb2.mono hB1.size)
    go_wp2
    go_ret
    exact ⟨ret_str hf.out.symm, hB2⟩
end Go.Proofs.YtgckkiencmickaaDoor

namespace Go.Proofs.YtgckkiencmickaaDoor
open Go.ChangeShapes Go.WideShapes Go.ChangeAt Go.RowKit

section
variable {H : Type} {enc : TypeId × Value → H} {P : Program} {w : World} {base : Nat} {spare : Nat → Bool} {held : Bool}

theorem cell_lt {w : World} {a : Addr} {v : Value} (h : w.cell? a = some v) : a.block < w.heap.size := by
  rcases Nat.lt_or_ge a.block w.heap.size with hl | hl
  · exact hl
  · unfold World.cell? at h
    rw [Array.getElem?_eq_none hl] at h
    cases h

theorem open_Arr {α : Type} (R : α → List Value → List Nat → Prop) {t e : TypeId} {k n fuel : Nat} {cs : List Value} {x : DataW H × List MemPlace} (ht : P.underlying t = some (.slice e)) (hk : P.cellsOf e = k) (hk0 : 0 < k) (hf : fuel = n + 1)
    (hR : ∀ ds y, DataW.trod enc P w base spare held n e ds = some y → ds.length = k → ∃ a F, R a ds F ∧ Under w.heap.size F)
    (h : DataW.trod enc P w base spare held fuel t cs = some x) : ∃ xs v F, cs = [v] ∧ Arr w R xs v F ∧ Under w.heap.size F := by
  subst hf
  rcases DataW.trod_slice ht h with ⟨rfl, -⟩ | ⟨a, len, cap, elems, rest, m, hm, rfl, -, -, hl, hmax, hlen, hel, -, -⟩
  · exact ⟨[], _, [], rfl, Arr.nil, Under.nil _⟩
  · obtain rfl : n = m := by omega
    by_cases h0 : len = 0
    · subst h0
      exact ⟨[], _, [], rfl, ⟨_, _, rfl, hl, hmax, .inl ⟨rfl, rfl⟩⟩, Under.nil _⟩
    · have get : ∀ i, i < len → ∃ ds y, (∀ j, j < k → w.cell? (a.add (i * k + j)) = ds[j]?) ∧ ds.length = k ∧ DataW.trod enc P w base spare held n e ds = some y := fun i hi => by
        have h1 := hel i hi
        rw [List.getElem?_eq_getElem (by omega), Option.bind_eq_some_iff] at h1
        obtain ⟨ds, h2, h3⟩ := h1
        obtain ⟨-, h4, h5⟩ := World.cells?_some h2
        rw [hk] at h4 h5
        refine ⟨ds, _, fun j hj => ?_, h4, h3⟩
        rw [← h5 j hj]
        congr 1
        unfold Addr.add
        by_cases e1 : i * k = 0 <;> by_cases e2 : j = 0 <;> simp [e1, e2, Nat.add_assoc]
      obtain ⟨b, off, spot⟩ := a
      obtain ⟨ds0, y0, g1, g2, -⟩ := get 0 (by omega)
      have hc0 : w.cell? ⟨b, off, spot⟩ = some (ds0[0]'(by omega)) := by
        have := g1 0 hk0
        simpa [Addr.add, List.getElem?_eq_getElem (show 0 < ds0.length by omega)] using this
      have hspot : spot = none := by simpa using World.cell?_spot hc0
      subst hspot
      have hb : b < w.heap.size := cell_lt hc0
      have key : ∀ m, m ≤ len → ∃ (xs : List α) (cs : List Value) (F : List Nat), xs.length = m ∧ cs.length = m * k ∧ CellsAt w b off cs ∧ Flat R xs cs F ∧ Under w.heap.size F := by
        intro m
        induction m with
        | zero => intro _; exact ⟨[], [], [], rfl, by simp, fun j u hj => by simp at hj, ⟨rfl, rfl⟩, Under.nil _⟩
        | succ m ih =>
          intro hm
          obtain ⟨xs, cs, F, h1, h2, h3, h4, h5⟩ := ih (by omega)
          obtain ⟨ds, y, g1, g2, g3⟩ := get m (by omega)
          obtain ⟨z, G, r1, r2⟩ := hR ds y g3 g2
          refine ⟨xs ++ [z], cs ++ ds, F ++ G, by simp [h1], by simp [h2, g2, Nat.add_mul], h3.append (fun j u hj => ?_), h4.append (Flat.one r1), fun c hc => ?_⟩
          · have hjk : j < k := by rw [← g2]; exact (List.getElem?_eq_some_iff.1 hj).1
            have := g1 j hjk
            rw [hj, Addr.add_lit] at this
            rw [h2, ← this]
            congr 2
            omega
          · rcases List.mem_append.1 hc with hc | hc
            · exact h5 c hc
            · exact r2 c hc
      obtain ⟨xs, cs, F, h1, h2, h3, h4, h5⟩ := key len (Nat.le_refl _)
      refine ⟨xs, _, b :: F, rfl, ⟨_, _, by rw [h1], by omega, hmax, .inr ⟨b, off, cs, F, rfl, h3, h4, rfl⟩⟩, fun c hc => ?_⟩
      rcases List.mem_cons.1 hc with rfl | hc
      · exact hb
      · exact h5 c hc

theorem open_slice_arg {α : Type} (R : α → List Value → List Nat → Prop) {t e : TypeId} {k : Nat} {r : Reach} {b0 : Nat} {v : Value} {d : DataW H} {ps : List MemPlace} (ht : P.underlying t = some (.slice e)) (hk : P.cellsOf e = k) (hk0 : 0 < k)
    (hR : ∀ n ds y, DataW.trod enc P w base spare held n e ds = some y → ∃ a F, R a ds F ∧ Under w.heap.size F)
    (hval : Value.okWide P w r b0 t v) (h : DataW.Trod enc P w base spare held t v d ps) : ∃ xs F, Arr w R xs v F ∧ Under w.heap.size F := by
  obtain ⟨a, len, cap, rfl⟩ := okWide_slice ht hval
  obtain ⟨fuel, hf⟩ := h
  cases fuel with
  | zero => simp [DataW.trod] at hf
  | succ n =>
    obtain ⟨xs, v, F, hv, ha, hF⟩ := open_Arr R ht hk hk0 rfl (fun ds y hd _ => hR n ds y hd) hf
    have : v = .slice a len cap := by simpa [Value.cells] using hv.symm
    subst this
    exact ⟨xs, F, ha, hF⟩
end
end Go.Proofs.YtgckkiencmickaaDoor

namespace Go.Proofs.YtgckkiencmickaaDoor
open Go.ChangeShapes Go.WideShapes Go.ChangeAt Go.RowKit
set_option maxRecDepth 100000

theorem cellsOf_u8 : Tryd.prog.cellsOf 5 = 1 := by kernel_rfl
theorem open_By_cells {H : Type} {enc : TypeId × Value → H} {w : World} {base : Nat} {spare : Nat → Bool} {held : Bool} (fuel : Nat) (cs : List Value) (x : DataW H × List MemPlace)
    (h : DataW.trod enc Tryd.prog w base spare held fuel 5 cs = some x) : ∃ v F, ByR w v cs F ∧ Under w.heap.size F := by
  cases fuel with
  | zero => simp [DataW.trod] at h
  | succ n =>
  obtain ⟨i0, e0, -, e2⟩ := DataW.trod_int Tryd.underlying5 h
  have hw : IntKind.u8.min ≤ i0 ∧ i0 ≤ IntKind.u8.max := by simpa [Lit.wf] using e2
  have h0 : IntKind.u8.min = 0 := rfl
  have h1 : IntKind.u8.max = 255 := rfl
  exact ⟨i0, [], ⟨e0, rfl, by omega, by omega⟩, Under.nil _⟩
theorem open_Bytes {H : Type} {enc : TypeId × Value → H} {w : World} {base : Nat} {spare : Nat → Bool} {held : Bool} {r : Reach} {b0 : Nat} {v : Value} {d : DataW H} {ps : List MemPlace} (hval : Value.okWide Tryd.prog w r b0 22 v)
    (h : DataW.Trod enc Tryd.prog w base spare held 22 v d ps) : ∃ (x : List Int) (F : List Nat), Arr w (ByR w) x v F ∧ Under w.heap.size F :=
  open_slice_arg (ByR w) Tryd.underlying22 cellsOf_u8 (by decide) (fun n ds y hd => open_By_cells n ds y hd) hval h
end Go.Proofs.YtgckkiencmickaaDoor
