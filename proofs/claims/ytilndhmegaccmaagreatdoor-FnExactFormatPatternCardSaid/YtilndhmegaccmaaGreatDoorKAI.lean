/-
  Lemmas and contracts of functions: patternText of the program at a constructor, and all; FormatPattern of the program. Conditions: none. What comes in as an argument (slices of structs, trees) lies in memory as the plain data say. Conditions: none. A Type that comes in as an argument lies in memory as the plain data say. Conditions: none. A Ctor that comes in as an argument lies in memory as the plain data say. Conditions: none. A Data that comes in as an argument lies in memory as the plain data say. Conditions: none. A Pattern that comes in as an argument lies in memory as the plain data say. Conditions: none.
-/
import Derived.Test.YtilndhmegaccmaaGreatDoorKAH
import Derived.Test.YtilndhmegaccmaaGreatDoorKAA
import Derived.ProofKit
import Derived.ChangeArms
import Derived.Deep.Fields
import Derived.Test.YtilndhmegaccmaaGreatDoorChecked

set_option linter.unusedVariables false
set_option linter.unusedSimpArgs false

namespace Go.Proofs.YtilndhmegaccmaaGreatDoor
open Go.RowKit

set_option maxRecDepth 100000 in
set_option maxHeartbeats 16000000 in
theorem patternText_4 (p : P) (ih : ∀ k ∈ p.ks, TxtPI k) (hop : p.op = 4) : TxtPI p := by
  intro xs hw d hd t ht hsh hn60 w x F cs G hx hf hv hg
  obtain ⟨kv, rfl, ha⟩ := (PR_iff _ _ _).1 hv
  obtain ⟨A, cap, rfl, hc1, hc2⟩ := hx.form
  obtain ⟨A4, cap4, rfl, hc3, hc4⟩ := ha.form
  cases d with
  | zero => rw [shapeB] at hsh; cases hsh
  | succ d =>
  have hlen := pT_len hw (d + 1) t p ht hsh
  obtain ⟨ho, hl, hall⟩ := shape_parts hsh
  have HKN : Hid (∀ k ∈ p.ks, nodesP k ≤ 60) := fun k hk => Nat.le_trans (nodesP_kid hk) hn60
  have HW := Lib.hid hw
  have ArrP_PR : Hid (∀ W, Below w.heap.size w W → PR W p _ G) := fun W hb => PR.below hv hb hg
  have IH := Lib.hid ih
  have HT := Lib.hid ht
  have HO := Lib.hid ho
  have HLN := Lib.hid hl
  have HTI := Lib.hid (typesP_in hw ht ho)
  have HAG := Lib.hid (fun i h1 h2 => allP_get hall i h1 h2)
  have HX := Lib.hid hx
  have HF := Lib.hid hf
  have HA := Lib.hid ha
  have HG := Lib.hid hg
  clear hx hf ha hg
  clear hw ih hv hsh ht hl hall
  have HLEN : Hid ((pT xs (d + 1) t p).length ≤ 480) := by unfold Hid; omega
  have HND : Hid (nodeB xs t p = true) := by unfold Hid nodeB; rw [Bool.and_eq_true]; exact ⟨HO.out, by rw [HLN.out]; simp⟩
  have htl := typesP_len HW.out HT.out HO.out
  have hkl3 : p.ks.length ≤ 3 := by rw [HLN.out]; exact htl
  have e1 : (p.op == 1) = false := by rw [hop]; decide
  have e2 : (p.op == 2) = false := by rw [hop]; decide
  have e3 : (p.op == 3) = false := by rw [hop]; decide
  have e4 : (p.op == 4) = true := by rw [hop]; decide
  obtain ⟨q, r, htq, hql, hrl⟩ := ctor_data HT.out HO.out hop
  obtain ⟨k, hvc, hkl, -⟩ := ctor_parts (r := r) hql (htq ▸ HO.out) hop
  have HPT : Hid (pT xs (d + 1) t p = tl xs[q].ctors[k].name ++ listedT ((List.zipWith (pT xs d) (typesP xs t p) p.ks).map bs)) := by
    unfold Hid; rw [pT_succ, nodeT_4 hop, listedT_lst, hvc]
    have hcn : ctorN xs t (k : Int) = tl xs[q].ctors[k].name := by rw [htq]; exact ctorN_get hql hkl
    rw [hcn]
  have HTD : Hid (t.d = (q : Int)) := by unfold Hid; rw [htq]
  have HVC := Lib.hid hvc
  have hn5 := nameOk_len (HW.out.ctor hql hkl).name
  clear hop htq hvc hrl
  clear htl hlen
  obtain ⟨i0, hi, hz0, hz1, hz2⟩ := info_parts info_strE
  have HI := Lib.hid hi
  have HZ0 := Lib.hid hz0
  have HZ1 := Lib.hid hz1
  have HZ2 := Lib.hid hz2
  clear hi hz0 hz1 hz2
  have hB0 : Below w.heap.size w ((w.alloc (.cells #[.int .i64 t.d, .int .i64 t.i] 33)).alloc (.cells #[.int .i64 p.op, .int .i64 p.ct, .int .i64 p.n, .int .i64 p.m, .int .i64 p.va, .slice A4 p.ks.length cap4] 37)) := ((Below.refl _ _).alloc (Nat.le_refl _) _).alloc (by simp) _
  have KT : Hid (Blk ((w.alloc (.cells #[.int .i64 t.d, .int .i64 t.i] 33)).alloc (.cells #[.int .i64 p.op, .int .i64 p.ct, .int .i64 p.n, .int .i64 p.m, .int .i64 p.va, .slice A4 p.ks.length cap4] 37)) w.heap.size 33 #[.int .i64 t.d, .int .i64 t.i]) := (Blk.new w _ _).same (Below.heap_alloc _ _ _ (by simp))
  have KV : Hid (Blk ((w.alloc (.cells #[.int .i64 t.d, .int .i64 t.i] 33)).alloc (.cells #[.int .i64 p.op, .int .i64 p.ct, .int .i64 p.n, .int .i64 p.m, .int .i64 p.va, .slice A4 p.ks.length cap4] 37)) (w.heap.size + 1) 37 #[.int .i64 p.op, .int .i64 p.ct, .int .i64 p.n, .int .i64 p.m, .int .i64 p.va, .slice A4 p.ks.length cap4]) := by have h := Blk.new (w.alloc (.cells #[.int .i64 t.d, .int .i64 t.i] 33)) 37 #[.int .i64 p.op, .int .i64 p.ct, .int .i64 p.n, .int .i64 p.m, .int .i64 p.va, .slice A4 p.ks.length cap4]; rw [World.size_alloc] at h; exact h
  go_enter Tryz.func20, Tryz.ntmps20
  go_wp2_with fail
  obtain ⟨W2, hW2⟩ : ∃ W2, W2 = ((w.alloc (.cells #[.int .i64 t.d, .int .i64 t.i] 33)).alloc (.cells #[.int .i64 p.op, .int .i64 p.ct, .int .i64 p.n, .int .i64 p.m, .int .i64 p.va, .slice A4 p.ks.length cap4] 37)) := ⟨_, rfl⟩
  rw [← hW2] at hB0 KT KV ⊢
  clear hW2
  refine (impl_kidTypes xs HW.out t HT.out p HND.out W2 _ F _ G (ArrDt.below HX.out hB0 HF.out) (HF.out.mono hB0.size) (ArrP_PR.out W2 hB0) (HG.out.mono hB0.size)).mono ?_
  rintro e w6 ⟨v6, F6, rfl, hb6, hfs6, ha6⟩
  have hB6 := hB0.trans (hb6.mono hB0.size)
  have KT6 := Lib.hid (KT.out.same (hb6.block _ KT.out.lt))
  have KV6 := Lib.hid (KV.out.same (hb6.block _ KV.out.lt))
  generalize hass : typesP xs t p = ls at *
  clear hass
  obtain ⟨A6, cap6, rfl, hd3, hd4⟩ := ha6.form
  have HA6 := Lib.hid ha6
  have HU6 := Lib.hid hfs6.under
  clear ha6 hfs6 hb6 KT KV hB0
  have z5 : w6.cell? ⟨w.heap.size + 1, 5, none⟩ = some (.slice A4 p.ks.length cap4) := (KV6.out.cell 5).trans (by simp)
  have klt2 := KV6.out.lt
  have HNIL : Hid (Own w6 w6.heap.size 9 1 StrR (psB xs d ls p.ks 0) (.slice none 0 0) []) := (show Own _ _ _ _ _ (psB xs d ls p.ks 0) _ _ from Own.nil _ _ _ _ _)
  go_wp2
  clear z5 klt2
  go_loopw [8, 18] (fun ov iv wr => ∃ i : Nat, i ≤ p.ks.length ∧ iv = .int .i64 i ∧ Hid (Own wr w6.heap.size 9 1 StrR (psB xs d ls p.ks i) ov []) ∧ Below w6.heap.size w6 wr) (fun _ iv _ => p.ks.length - (intOf iv).toNat)
  case atStart => exact ⟨0, Nat.zero_le _, rfl, HNIL, Below.refl _ _⟩
  case round =>
    clear HNIL
    obtain ⟨i, hi, rfl, HOw, hBr⟩ := hrel
    have hBw0 : Below w.heap.size w wr := hB6.trans (hBr.mono hB6.size)
    by_cases hik : i < p.ks.length
    · have hil : i < ls.length := by rw [← HLN.out]; exact hik
      obtain ⟨b6, off6, rfl⟩ := HA6.out.ptr (by omega)
      obtain ⟨b4, off4, rfl⟩ := HA.out.ptr (by omega)
      obtain ⟨A7, cap7, G7, hb7, k0, k1, k2, k3, k4, k5, HV7, HG7, -, -, -⟩ := ArrP.at HA.out HG.out hBw0 i hik
      have g1 : (0 : Int) ≤ (i : Int) := by omega
      have g2 : (i : Int) < (ls.length : Int) := by omega
      have g3 : (i : Int) < (p.ks.length : Int) := by omega
      have e1' : decide (i < p.ks.length) = true := by simpa using hik
      have HFI : Hid (shapeB xs d ls[i] p.ks[i] = true) := HAG.out i hil hik
      have HMK : Hid (p.ks[i] ∈ p.ks) := List.getElem_mem hik
      have HNI : Hid (nodesP p.ks[i] ≤ 60) := HKN.out _ HMK.out
      have HTI2 := Lib.hid (HTI.out _ (List.getElem_mem hil))
      have HSC := Lib.hid (psB_succ xs d ls p.ks i hil hik)
      obtain ⟨Z, hZ⟩ : ∃ z, bs (pT xs d ls[i] p.ks[i]) = z := ⟨_, rfl⟩
      have HZ := Lib.hid hZ
      have HSU : Hid (psB xs d ls p.ks (i + 1) = psB xs d ls p.ks i ++ [Z]) := by rw [← HZ.out]; exact HSC.out
      clear hZ HSC
      have hlm := psB_len xs d ls p.ks i
      have hmx : (psB xs d ls p.ks i).length + 1 ≤ maxLen := by unfold maxLen; omega
      have hby : ((psB xs d ls p.ks i).length + 1) * 16 ≤ 140737488355328 := by omega
      have hbe : Below wr.heap.size wr (wr.alloc (.cells #[.int .i64 p.ks[i].op, .int .i64 p.ks[i].ct, .int .i64 p.ks[i].n, .int .i64 p.ks[i].m, .int .i64 p.ks[i].va, .slice A7 p.ks[i].ks.length cap7] 37)) := (Below.refl _ _).alloc (Nat.le_refl _) _
      have HOq : Hid (Own (wr.alloc (.cells #[.int .i64 p.ks[i].op, .int .i64 p.ks[i].ct, .int .i64 p.ks[i].n, .int .i64 p.ks[i].m, .int .i64 p.ks[i].va, .slice A7 p.ks[i].ks.length cap7] 37)) w6.heap.size 9 1 StrR (psB xs d ls p.ks i) u8 []) := HOw.out.below (fun x cs G hk h => StrR_mono _ _ x cs G hk h) hbe
      have hBq : Below w6.heap.size w6 (wr.alloc (.cells #[.int .i64 p.ks[i].op, .int .i64 p.ks[i].ct, .int .i64 p.ks[i].n, .int .i64 p.ks[i].m, .int .i64 p.ks[i].va, .slice A7 p.ks[i].ks.length cap7] 37)) := hBr.trans (hbe.mono hBr.size)
      have hBwq : Below w.heap.size w (wr.alloc (.cells #[.int .i64 p.ks[i].op, .int .i64 p.ks[i].ct, .int .i64 p.ks[i].n, .int .i64 p.ks[i].m, .int .i64 p.ks[i].va, .slice A7 p.ks[i].ks.length cap7] 37)) := hBw0.trans (hbe.mono hBw0.size)
      have KD : Hid (Blk (wr.alloc (.cells #[.int .i64 p.ks[i].op, .int .i64 p.ks[i].ct, .int .i64 p.ks[i].n, .int .i64 p.ks[i].m, .int .i64 p.ks[i].va, .slice A7 p.ks[i].ks.length cap7] 37)) wr.heap.size 37 #[.int .i64 p.ks[i].op, .int .i64 p.ks[i].ct, .int .i64 p.ks[i].n, .int .i64 p.ks[i].m, .int .i64 p.ks[i].va, .slice A7 p.ks[i].ks.length cap7]) := Blk.new _ _ _
      have HKD : Hid (wr.heap.size ∉ rowOf u8) := fun h => Nat.lt_irrefl _ (HOw.out.row _ h).2
      obtain ⟨kA, kcap, hkv, -, -⟩ := HOw.out.form
      subst hkv
      go_wp2_with fail
      clear k0 k1 k2 k3 k4 k5 hb7
      generalize (wr.alloc (.cells #[.int .i64 p.ks[i].op, .int .i64 p.ks[i].ct, .int .i64 p.ks[i].n, .int .i64 p.ks[i].m, .int .i64 p.ks[i].va, .slice A7 p.ks[i].ks.length cap7] 37)) = wq at *
      generalize wr.heap.size = kd at *
      obtain ⟨hb6q, a0, a1⟩ := ArrTy.at HA6.out HU6.out hBq i hil
      have hb6l : b6 < w6.heap.size := ArrTy_lt HA6.out HU6.out i hil
      have k0 := (KD.out.cell 0).trans (show _ = some (.int .i64 p.ks[i].op) from by simp)
      have k1 := (KD.out.cell 1).trans (show _ = some (.int .i64 p.ks[i].ct) from by simp)
      have k2 := (KD.out.cell 2).trans (show _ = some (.int .i64 p.ks[i].n) from by simp)
      have k3 := (KD.out.cell 3).trans (show _ = some (.int .i64 p.ks[i].m) from by simp)
      have k4 := (KD.out.cell 4).trans (show _ = some (.int .i64 p.ks[i].va) from by simp)
      have k5 := (KD.out.cell 5).trans (show _ = some (.slice A7 p.ks[i].ks.length cap7) from by simp)
      have klt := KD.out.lt
      have hBw : Below w.heap.size w wq.drew := hBwq.drew
      have HS : Hid (∀ C : World, Below wq.heap.size wq C → (C.cell? ⟨b6, off6 + i * 2, none⟩ = some (.int .i64 ls[i].d) ∧ C.cell? ⟨b6, off6 + i * 2 + 1, none⟩ = some (.int .i64 ls[i].i) ∧ C.cell? ⟨kd, 0, none⟩ = some (.int .i64 p.ks[i].op) ∧ C.cell? ⟨kd, 1, none⟩ = some (.int .i64 p.ks[i].ct) ∧ C.cell? ⟨kd, 2, none⟩ = some (.int .i64 p.ks[i].n) ∧ C.cell? ⟨kd, 3, none⟩ = some (.int .i64 p.ks[i].m) ∧ C.cell? ⟨kd, 4, none⟩ = some (.int .i64 p.ks[i].va) ∧ C.cell? ⟨kd, 5, none⟩ = some (.slice A7 p.ks[i].ks.length cap7))) := fun C hb => ⟨(hb.cell (hb6q)).trans a0, (hb.cell (hb6q)).trans a1, (hb.cell (klt)).trans k0, (hb.cell (klt)).trans k1, (hb.cell (klt)).trans k2, (hb.cell (klt)).trans k3, (hb.cell (klt)).trans k4, (hb.cell (klt)).trans k5⟩
      have hC0 : Below wq.heap.size wq wq.drew := (Below.refl _ _).drew
      refine wp_region_B (S := fun w' => w'.cell? ⟨b6, off6 + i * 2, none⟩ = some (.int .i64 ls[i].d) ∧ w'.cell? ⟨b6, off6 + i * 2 + 1, none⟩ = some (.int .i64 ls[i].i) ∧ w'.cell? ⟨kd, 0, none⟩ = some (.int .i64 p.ks[i].op) ∧ w'.cell? ⟨kd, 1, none⟩ = some (.int .i64 p.ks[i].ct) ∧ w'.cell? ⟨kd, 2, none⟩ = some (.int .i64 p.ks[i].n) ∧ w'.cell? ⟨kd, 3, none⟩ = some (.int .i64 p.ks[i].m) ∧ w'.cell? ⟨kd, 4, none⟩ = some (.int .i64 p.ks[i].va) ∧ w'.cell? ⟨kd, 5, none⟩ = some (.slice A7 p.ks[i].ks.length cap7)) (T := fun _ => True) (d := 99) (by kernel_rfl) ?_
      obtain ⟨wd, hwd⟩ : ∃ X, X = wq.drew := ⟨_, rfl⟩
      rw [← hwd] at hC0 hBw  ⊢
      clear hwd
      have hS0 := HS.out _ hC0
      have hT0 : True := trivial
      refine wpAnyB_take (i := 0) (v := ?_) rfl (by decide) (by kernel_rfl) (by kernel_rfl) (by kernel_rfl) (fun _ _ _ h => h) (Or.inl ⟨by rfl, ?hy0⟩) hS0 (fun _ => hT0) ?_
      case hy0 => (intro W hSw; (try dsimp only at hSw); (try obtain ⟨hSw0, hSw1, hSw2, hSw3, hSw4, hSw5, hSw6, hSw7⟩ := hSw); go_simp; try with_reducible rfl)
      (try simp only [Act.put, List.getElem_toArray, List.getElem_cons_zero, List.getElem_cons_succ, List.setIfInBounds_toArray, List.set_cons_zero, List.set_cons_succ])
      refine wpAnyB_take (i := 1) (v := ?_) rfl (by decide) (by kernel_rfl) (by kernel_rfl) (by kernel_rfl) (fun _ _ _ h => h) (Or.inl ⟨by rfl, ?hy1⟩) hS0 (fun _ => hT0) ?_
      case hy1 => (intro W hSw; (try dsimp only at hSw); (try obtain ⟨hSw0, hSw1, hSw2, hSw3, hSw4, hSw5, hSw6, hSw7⟩ := hSw); go_simp; try with_reducible rfl)
      (try simp only [Act.put, List.getElem_toArray, List.getElem_cons_zero, List.getElem_cons_succ, List.setIfInBounds_toArray, List.set_cons_zero, List.set_cons_succ])
      refine wpAnyB_take (i := 2) (v := ?_) rfl (by decide) (by kernel_rfl) (by kernel_rfl) (by kernel_rfl) (fun _ _ _ h => h) (Or.inl ⟨by rfl, ?hy2⟩) hS0 (fun _ => hT0) ?_
      case hy2 => (intro W hSw; (try dsimp only at hSw); (try obtain ⟨hSw0, hSw1, hSw2, hSw3, hSw4, hSw5, hSw6, hSw7⟩ := hSw); go_simp; try with_reducible rfl)
      (try simp only [Act.put, List.getElem_toArray, List.getElem_cons_zero, List.getElem_cons_succ, List.setIfInBounds_toArray, List.set_cons_zero, List.set_cons_succ])
      refine wpAnyB_take (i := 3) (v := ?_) rfl (by decide) (by kernel_rfl) (by kernel_rfl) (by kernel_rfl) (fun _ _ _ h => h) (Or.inl ⟨by rfl, ?hy3⟩) hS0 (fun _ => hT0) ?_
      case hy3 => (intro W hSw; (try dsimp only at hSw); (try obtain ⟨hSw0, hSw1, hSw2, hSw3, hSw4, hSw5, hSw6, hSw7⟩ := hSw); go_simp; try with_reducible rfl)
      (try simp only [Act.put, List.getElem_toArray, List.getElem_cons_zero, List.getElem_cons_succ, List.setIfInBounds_toArray, List.set_cons_zero, List.set_cons_succ])
      refine wpAnyB_take (i := 4) (v := ?_) rfl (by decide) (by kernel_rfl) (by kernel_rfl) (by kernel_rfl) (fun _ _ _ h => h) (Or.inl ⟨by rfl, ?hy4⟩) hS0 (fun _ => hT0) ?_
      case hy4 => (intro W hSw; (try dsimp only at hSw); (try obtain ⟨hSw0, hSw1, hSw2, hSw3, hSw4, hSw5, hSw6, hSw7⟩ := hSw); go_simp; try with_reducible rfl)
      (try simp only [Act.put, List.getElem_toArray, List.getElem_cons_zero, List.getElem_cons_succ, List.setIfInBounds_toArray, List.set_cons_zero, List.set_cons_succ])
      refine wpAnyB_take (i := 5) (v := ?_) rfl (by decide) (by kernel_rfl) (by kernel_rfl) (by kernel_rfl) (fun _ _ _ h => h) (Or.inl ⟨by rfl, ?hy5⟩) hS0 (fun _ => hT0) ?_
      case hy5 => (intro W hSw; (try dsimp only at hSw); (try obtain ⟨hSw0, hSw1, hSw2, hSw3, hSw4, hSw5, hSw6, hSw7⟩ := hSw); go_simp; try with_reducible rfl)
      (try simp only [Act.put, List.getElem_toArray, List.getElem_cons_zero, List.getElem_cons_succ, List.setIfInBounds_toArray, List.set_cons_zero, List.set_cons_succ])
      refine wpAnyB_take (i := 6) (v := ?_) rfl (by decide) (by kernel_rfl) (by kernel_rfl) (by kernel_rfl) (fun _ _ _ h => h) (Or.inl ⟨by rfl, ?hy6⟩) hS0 (fun _ => hT0) ?_
      case hy6 => (intro W hSw; (try dsimp only at hSw); (try obtain ⟨hSw0, hSw1, hSw2, hSw3, hSw4, hSw5, hSw6, hSw7⟩ := hSw); go_simp; try with_reducible rfl)
      (try simp only [Act.put, List.getElem_toArray, List.getElem_cons_zero, List.getElem_cons_succ, List.setIfInBounds_toArray, List.set_cons_zero, List.set_cons_succ])
      refine wpAnyB_ready (rs := [7]) (by kernel_rfl) (by simp) ?_
      refine AllReadyB.cons rfl (fun K hK => ?_) AllReadyB.nil
      go_simp
      go_at_call 20
      refine (IH.out p.ks[i] HMK.out xs HW.out d (by omega) ls[i] HTI2.out HFI.out HNI.out wd _ F _ G7 (ArrDt.below HX.out hBw HF.out) (HF.out.mono hBw.size) (HV7.out.below hBw HG7.out) (HG7.out.mono hBw.size)).mono ?_
      rintro e w4 ⟨rfl, hb4⟩
      have hC1 : Below wq.heap.size wq w4 := hC0.trans (hb4.mono hC0.size)
      have hS1 := HS.out _ hC1
      rw [HZ.out]
      (try dsimp only)
      refine hK.out _ _ hS1 (fun _ => trivial) ?_
      clear hK K
      (try simp only [Act.put, List.getElem_toArray, List.getElem_cons_zero, List.getElem_cons_succ, List.setIfInBounds_toArray, List.set_cons_zero, List.set_cons_succ])
      have HO5 : Hid (Own w4 w6.heap.size 9 1 StrR (psB xs d ls p.ks i) (.slice kA (psB xs d ls p.ks i).length kcap) []) := HOq.out.below (fun x cs G hk h => StrR_mono _ _ x cs G hk h) (hC1)
      have hB5 : Below w6.heap.size w6 w4 := hBq.trans (hC1.mono hBq.size)
      have hbs5 : w6.heap.size ≤ w4.heap.size := hB5.size
      have hb6w : b6 < w4.heap.size := Nat.lt_of_lt_of_le hb6q hC1.size
      have klt4 : kd < w4.heap.size := Nat.lt_of_lt_of_le klt hC1.size
      refine wpAnyB_ready (rs := [8]) (by kernel_rfl) (by simp) ?_
      refine AllReadyB.cons rfl (fun K hK => ?_) AllReadyB.nil
      go_simp
      have hSa : (w4.alloc (.cells #[.string Z] 9)).cell? ⟨b6, off6 + i * 2, none⟩ = some (.int .i64 ls[i].d) ∧ (w4.alloc (.cells #[.string Z] 9)).cell? ⟨b6, off6 + i * 2 + 1, none⟩ = some (.int .i64 ls[i].i) ∧ (w4.alloc (.cells #[.string Z] 9)).cell? ⟨kd, 0, none⟩ = some (.int .i64 p.ks[i].op) ∧ (w4.alloc (.cells #[.string Z] 9)).cell? ⟨kd, 1, none⟩ = some (.int .i64 p.ks[i].ct) ∧ (w4.alloc (.cells #[.string Z] 9)).cell? ⟨kd, 2, none⟩ = some (.int .i64 p.ks[i].n) ∧ (w4.alloc (.cells #[.string Z] 9)).cell? ⟨kd, 3, none⟩ = some (.int .i64 p.ks[i].m) ∧ (w4.alloc (.cells #[.string Z] 9)).cell? ⟨kd, 4, none⟩ = some (.int .i64 p.ks[i].va) ∧ (w4.alloc (.cells #[.string Z] 9)).cell? ⟨kd, 5, none⟩ = some (.slice A7 p.ks[i].ks.length cap7) := ⟨(World.cell?_alloc_lt _ _ _ hb6w).trans hS1.1, (World.cell?_alloc_lt _ _ _ hb6w).trans hS1.2.1, (World.cell?_alloc_lt _ _ _ klt4).trans hS1.2.2.1, (World.cell?_alloc_lt _ _ _ klt4).trans hS1.2.2.2.1, (World.cell?_alloc_lt _ _ _ klt4).trans hS1.2.2.2.2.1, (World.cell?_alloc_lt _ _ _ klt4).trans hS1.2.2.2.2.2.1, (World.cell?_alloc_lt _ _ _ klt4).trans hS1.2.2.2.2.2.2.1, (World.cell?_alloc_lt _ _ _ klt4).trans hS1.2.2.2.2.2.2.2⟩
      refine hK.out _ _ hSa (fun _ => trivial) ?_
      clear hK K
      (try simp only [Act.put, List.getElem_toArray, List.getElem_cons_zero, List.getElem_cons_succ, List.setIfInBounds_toArray, List.set_cons_zero, List.set_cons_succ])
      refine wpAnyB_ready (rs := [9]) (by kernel_rfl) (by simp) ?_
      refine AllReadyB.cons rfl (fun K hK => ?_) AllReadyB.nil
      refine step_push1 (P := Tryz.prog) rfl _ _ 64 rfl i0 _ 16 Tryz.underlying64 HI.out HZ0.out HZ1.out HZ2.out rfl Nat.zero_lt_one StrR_len StrR_mono (by rfl) HO5.out Z 9 [.string Z] [] _ (by rfl) rfl (by simp [Value.oneCell']) ⟨rfl, rfl⟩ (Under.nil _) (fun _ _ h => by cases h) hmx hby hbs5 ?_
      intro g cp w8 hown8 hgr8 hat8
      have hrow := HO5.out.row
      have hB8 : Below w6.heap.size w6 w8 := (hB5.alloc hbs5 _).grown hgr8 (by simp; omega) (fun g hg => (hrow g (mem_rowOf.2 hg)).1)
      have l7 : w4.heap.size ≤ (w4.alloc (.cells #[.string Z] 9)).heap.size := by rw [World.size_alloc]; exact Nat.le_succ _
      have hnb6 : some b6 ≠ (Value.slice kA (psB xs d ls p.ks i).length kcap).ownBlock := fun e => by
        have := (hrow b6 (mem_rowOf.2 e.symm)).1; omega
      have hnkd : some kd ≠ (Value.slice kA (psB xs d ls p.ks i).length kcap).ownBlock := fun e => HKD.out (mem_rowOf.2 e.symm)
      have hfar : ∀ p' : Addr, p'.block < w4.heap.size → some p'.block ≠ (Value.slice kA (psB xs d ls p.ks i).length kcap).ownBlock → w8.cell? p' = w4.cell? p' := fun p' h1 h2 => (World.grownBy.cell_far hgr8 p' (Nat.lt_of_lt_of_le h1 l7) h2).trans (World.cell?_alloc_lt _ _ _ h1)
      have hS8 : w8.cell? ⟨b6, off6 + i * 2, none⟩ = some (.int .i64 ls[i].d) ∧ w8.cell? ⟨b6, off6 + i * 2 + 1, none⟩ = some (.int .i64 ls[i].i) ∧ w8.cell? ⟨kd, 0, none⟩ = some (.int .i64 p.ks[i].op) ∧ w8.cell? ⟨kd, 1, none⟩ = some (.int .i64 p.ks[i].ct) ∧ w8.cell? ⟨kd, 2, none⟩ = some (.int .i64 p.ks[i].n) ∧ w8.cell? ⟨kd, 3, none⟩ = some (.int .i64 p.ks[i].m) ∧ w8.cell? ⟨kd, 4, none⟩ = some (.int .i64 p.ks[i].va) ∧ w8.cell? ⟨kd, 5, none⟩ = some (.slice A7 p.ks[i].ks.length cap7) := ⟨(hfar ⟨b6, off6 + i * 2, none⟩ hb6w hnb6).trans hS1.1, (hfar ⟨b6, off6 + i * 2 + 1, none⟩ hb6w hnb6).trans hS1.2.1, (hfar ⟨kd, 0, none⟩ klt4 hnkd).trans hS1.2.2.1, (hfar ⟨kd, 1, none⟩ klt4 hnkd).trans hS1.2.2.2.1, (hfar ⟨kd, 2, none⟩ klt4 hnkd).trans hS1.2.2.2.2.1, (hfar ⟨kd, 3, none⟩ klt4 hnkd).trans hS1.2.2.2.2.2.1, (hfar ⟨kd, 4, none⟩ klt4 hnkd).trans hS1.2.2.2.2.2.2.1, (hfar ⟨kd, 5, none⟩ klt4 hnkd).trans hS1.2.2.2.2.2.2.2⟩
      have HO8 := Lib.hid hown8
      refine hK.out _ _ hS8 (fun _ => trivial) ?_
      clear hK K
      (try simp only [Act.put, List.getElem_toArray, List.getElem_cons_zero, List.getElem_cons_succ, List.setIfInBounds_toArray, List.set_cons_zero, List.set_cons_succ])
      refine wpAnyB_take (i := 10) (v := ?_) rfl (by decide) (by kernel_rfl) (by kernel_rfl) (by kernel_rfl) (fun _ _ _ h => h) (Or.inl ⟨by rfl, ?hy10⟩) hS8 (fun _ => hT0) ?_
      case hy10 => (intro W hSw; (try dsimp only at hSw); (try obtain ⟨hSw0, hSw1, hSw2, hSw3, hSw4, hSw5, hSw6, hSw7⟩ := hSw); go_simp; try with_reducible rfl)
      (try simp only [Act.put, List.getElem_toArray, List.getElem_cons_zero, List.getElem_cons_succ, List.setIfInBounds_toArray, List.set_cons_zero, List.set_cons_succ])
      refine wpAnyB_end (by kernel_rfl) ?_
      clear hS0 hS1 hS8 hT0 hfar hnkd hnb6 l7 hrow hgr8 hat8 hown8 hbe hb4 HO5 hB5 HOq hBq hBwq hBw HS hC0 hC1
      go_wp2
      go_roundw
      case rel => exact ⟨i + 1, hik, by go_num, by rw [HSU.out]; exact HO8.out, hB8⟩
      case measure => (simp [intOf] <;> omega)
    · have e1' : decide (i < p.ks.length) = false := by simpa using hik
      have hta := psB_all xs d ls p.ks (i := i) (by have := HLN.out; omega) (by omega)
      obtain ⟨SS, hSS⟩ : ∃ s, s = (List.zipWith (pT xs d) ls p.ks).map bs := ⟨_, rfl⟩
      rw [← hSS] at hta
      have HSS := Lib.hid hSS
      have HAR : Hid (Arr wr (StrR wr) SS u8 (if psB xs d ls p.ks i = [] then [] else rowOf u8 ++ [])) := by rw [← hta]; exact HOw.out.arr
      have HRW := Lib.hid HOw.out.row
      have HUA : Hid (Under wr.heap.size (if psB xs d ls p.ks i = [] then [] else rowOf u8 ++ [])) := fun b hb => by
        split at hb
        · cases hb
        · rw [List.append_nil] at hb; exact (HRW.out b hb).2
      have hsl : SS.length ≤ 1000 := by rw [← hta]; have := psB_len xs d ls p.ks i; omega
      have HSL := Lib.hid hsl
      generalize (if psB xs d ls p.ks i = [] then [] else rowOf u8 ++ []) = FA at HAR HUA
      have KT := Lib.hid (KT6.out.same (hBr.block _ KT6.out.lt))
      have KV := Lib.hid (KV6.out.same (hBr.block _ KV6.out.lt))
      clear hta hSS HOw hsl HRW
      have y0 : wr.cell? ⟨w.heap.size, 0, none⟩ = some (.int .i64 t.d) := (KT.out.cell 0).trans (by simp)
      have y1 : wr.cell? ⟨w.heap.size, 1, none⟩ = some (.int .i64 t.i) := (KT.out.cell 1).trans (by simp)
      have klt := KT.out.lt
      have z0 : wr.cell? ⟨w.heap.size + 1, 0, none⟩ = some (.int .i64 p.op) := (KV.out.cell 0).trans (by simp)
      have z1 : wr.cell? ⟨w.heap.size + 1, 1, none⟩ = some (.int .i64 p.ct) := (KV.out.cell 1).trans (by simp)
      have z2 : wr.cell? ⟨w.heap.size + 1, 2, none⟩ = some (.int .i64 p.n) := (KV.out.cell 2).trans (by simp)
      have z3 : wr.cell? ⟨w.heap.size + 1, 3, none⟩ = some (.int .i64 p.m) := (KV.out.cell 3).trans (by simp)
      have z4 : wr.cell? ⟨w.heap.size + 1, 4, none⟩ = some (.int .i64 p.va) := (KV.out.cell 4).trans (by simp)
      have z5 : wr.cell? ⟨w.heap.size + 1, 5, none⟩ = some (.slice A4 p.ks.length cap4) := (KV.out.cell 5).trans (by simp)
      have klt2 := KV.out.lt
      have hpt := HPT.out
      rw [← HSS.out] at hpt
      have HP2 := Lib.hid hpt
      have hl4 := HLEN.out
      rw [hpt, List.length_append] at hl4
      have hjl := join_le SS
      have HSJ : Hid ((Lib.join (SS.map tl) [44]).length ≤ 1000000) := by unfold Hid; omega
      have hll : (bs (listedT SS)).size ≤ 480 := by rw [bs_size]; omega
      obtain ⟨L, hL⟩ : ∃ l, bs (listedT SS) = l := ⟨_, rfl⟩
      rw [hL] at hll
      have HL := Lib.hid hL
      have hf : Hid (bs (pT xs (d + 1) t p) = xs[q].ctors[k].name ++ L) := by unfold Hid; rw [HP2.out, bs_app, HL.out]
      clear hL hpt hl4 hjl
      have s1 : xs[q].ctors[k].name.size + L.size ≤ 9223372036854775807 := by omega
      have s2 : (xs[q].ctors[k].name.size : Int) + (L.size : Int) ≤ 9223372036854775807 := by omega
      have s3 : ¬ 9223372036854775807 < xs[q].ctors[k].name.size + L.size := by omega
      clear hll hn5
      obtain ⟨b, off, rfl⟩ := HX.out.ptr (by omega)
      obtain ⟨A1, cap1, G1, hbA, n0, n1, HK, HG1, -, hn1, hn2⟩ := ArrDt.at HX.out HF.out hBw0 q hql
      obtain ⟨b3, off3, rfl⟩ := HK.out.ptr (by omega)
      obtain ⟨A9, cap9, G9, hb9, p0, p1, p2, HT9, HTG9, -, -, -⟩ := ArrKt.at HK.out HG1.out hBw0 k hkl
      have g1 : (0 : Int) ≤ (q : Int) := by omega
      have g2 : (q : Int) < (xs.length : Int) := by omega
      have g3 : (0 : Int) ≤ (k : Int) := by omega
      have g4 : (k : Int) < (xs[q].ctors.length : Int) := by omega
      have y0' : wr.cell? ⟨w.heap.size, 0, none⟩ = some (.int .i64 (q : Int)) := by rw [← HTD.out]; exact y0
      have z1' : wr.cell? ⟨w.heap.size + 1, 1, none⟩ = some (.int .i64 (k : Int)) := by rw [← HVC.out]; exact z1
      have HUAd : Hid (Under wr.drew.heap.size FA) := HUA.out
      have HARd : Hid (Arr wr.drew (StrR wr.drew) SS u8 FA) := ArrStr.mono HAR.out (fun _ _ => rfl)
      clear n0 p1 p2 HAR HUA y0 z1
      go_wp2_with fail
      have HS : Hid (∀ C : World, Below wr.heap.size wr C → (C.cell? ⟨w.heap.size, 0, none⟩ = some (.int .i64 (q : Int)) ∧ C.cell? ⟨b, off + q * 2 + 1, none⟩ = some (.slice (some ⟨b3, off3, none⟩) xs[q].ctors.length cap1) ∧ C.cell? ⟨w.heap.size + 1, 1, none⟩ = some (.int .i64 (k : Int)) ∧ C.cell? ⟨b3, off3 + k * 3, none⟩ = some (.string xs[q].ctors[k].name))) := fun C hb => ⟨(hb.cell (klt)).trans y0', (hb.cell (hbA)).trans n1, (hb.cell (klt2)).trans z1', (hb.cell (hb9)).trans p0⟩
      have hC0 : Below wr.heap.size wr wr.drew := (Below.refl _ _).drew
      refine wp_region_B (S := fun w' => w'.cell? ⟨w.heap.size, 0, none⟩ = some (.int .i64 (q : Int)) ∧ w'.cell? ⟨b, off + q * 2 + 1, none⟩ = some (.slice (some ⟨b3, off3, none⟩) xs[q].ctors.length cap1) ∧ w'.cell? ⟨w.heap.size + 1, 1, none⟩ = some (.int .i64 (k : Int)) ∧ w'.cell? ⟨b3, off3 + k * 3, none⟩ = some (.string xs[q].ctors[k].name)) (T := fun _ => True) (d := 99) (by kernel_rfl) ?_
      obtain ⟨wd, hwd⟩ : ∃ X, X = wr.drew := ⟨_, rfl⟩
      rw [← hwd] at hC0 HARd HUAd  ⊢
      clear hwd
      have hS0 := HS.out _ hC0
      have hT0 : True := trivial
      refine wpAnyB_take (i := 0) (v := ?_) rfl (by decide) (by kernel_rfl) (by kernel_rfl) (by kernel_rfl) (fun _ _ _ h => h) (Or.inl ⟨by rfl, ?hy0⟩) hS0 (fun _ => hT0) ?_
      case hy0 => (intro W hSw; (try dsimp only at hSw); (try obtain ⟨hSw0, hSw1, hSw2, hSw3⟩ := hSw); go_simp; try with_reducible rfl)
      (try simp only [Act.put, List.getElem_toArray, List.getElem_cons_zero, List.getElem_cons_succ, List.setIfInBounds_toArray, List.set_cons_zero, List.set_cons_succ])
      refine wpAnyB_take (i := 1) (v := ?_) rfl (by decide) (by kernel_rfl) (by kernel_rfl) (by kernel_rfl) (fun _ _ _ h => h) (Or.inl ⟨by rfl, ?hy1⟩) hS0 (fun _ => hT0) ?_
      case hy1 => (intro W hSw; (try dsimp only at hSw); (try obtain ⟨hSw0, hSw1, hSw2, hSw3⟩ := hSw); go_simp; try with_reducible rfl)
      (try simp only [Act.put, List.getElem_toArray, List.getElem_cons_zero, List.getElem_cons_succ, List.setIfInBounds_toArray, List.set_cons_zero, List.set_cons_succ])
      refine wpAnyB_take (i := 2) (v := ?_) rfl (by decide) (by kernel_rfl) (by kernel_rfl) (by kernel_rfl) (fun _ _ _ h => h) (Or.inl ⟨by rfl, ?hy2⟩) hS0 (fun _ => hT0) ?_
      case hy2 => (intro W hSw; (try dsimp only at hSw); (try obtain ⟨hSw0, hSw1, hSw2, hSw3⟩ := hSw); go_simp; try with_reducible rfl)
      (try simp only [Act.put, List.getElem_toArray, List.getElem_cons_zero, List.getElem_cons_succ, List.setIfInBounds_toArray, List.set_cons_zero, List.set_cons_succ])
      refine wpAnyB_take (i := 3) (v := ?_) rfl (by decide) (by kernel_rfl) (by kernel_rfl) (by kernel_rfl) (fun _ _ _ h => h) (Or.inl ⟨by rfl, ?hy3⟩) hS0 (fun _ => hT0) ?_
      case hy3 => (intro W hSw; (try dsimp only at hSw); (try obtain ⟨hSw0, hSw1, hSw2, hSw3⟩ := hSw); go_simp; try with_reducible rfl)
      (try simp only [Act.put, List.getElem_toArray, List.getElem_cons_zero, List.getElem_cons_succ, List.setIfInBounds_toArray, List.set_cons_zero, List.set_cons_succ])
      refine wpAnyB_take (i := 4) (v := ?_) rfl (by decide) (by kernel_rfl) (by kernel_rfl) (by kernel_rfl) (fun _ _ _ h => h) (Or.inl ⟨by rfl, ?hy4⟩) hS0 (fun _ => hT0) ?_
      case hy4 => (intro W hSw; (try dsimp only at hSw); (try obtain ⟨hSw0, hSw1, hSw2, hSw3⟩ := hSw); go_simp; try with_reducible rfl)
      (try simp only [Act.put, List.getElem_toArray, List.getElem_cons_zero, List.getElem_cons_succ, List.setIfInBounds_toArray, List.set_cons_zero, List.set_cons_succ])
      refine wpAnyB_take (i := 5) (v := ?_) rfl (by decide) (by kernel_rfl) (by kernel_rfl) (by kernel_rfl) (fun _ _ _ h => h) (Or.inl ⟨by rfl, ?hy5⟩) hS0 (fun _ => hT0) ?_
      case hy5 => (intro W hSw; (try dsimp only at hSw); (try obtain ⟨hSw0, hSw1, hSw2, hSw3⟩ := hSw); go_simp; try with_reducible rfl)
      (try simp only [Act.put, List.getElem_toArray, List.getElem_cons_zero, List.getElem_cons_succ, List.setIfInBounds_toArray, List.set_cons_zero, List.set_cons_succ])
      refine wpAnyB_take (i := 6) (v := ?_) rfl (by decide) (by kernel_rfl) (by kernel_rfl) (by kernel_rfl) (fun _ _ _ h => h) (Or.inl ⟨by rfl, ?hy6⟩) hS0 (fun _ => hT0) ?_
      case hy6 => (intro W hSw; (try dsimp only at hSw); (try obtain ⟨hSw0, hSw1, hSw2, hSw3⟩ := hSw); go_simp; try with_reducible rfl)
      (try simp only [Act.put, List.getElem_toArray, List.getElem_cons_zero, List.getElem_cons_succ, List.setIfInBounds_toArray, List.set_cons_zero, List.set_cons_succ])
      refine wpAnyB_take (i := 7) (v := ?_) rfl (by decide) (by kernel_rfl) (by kernel_rfl) (by kernel_rfl) (fun _ _ _ h => h) (Or.inl ⟨by rfl, ?hy7⟩) hS0 (fun _ => hT0) ?_
      case hy7 => (intro W hSw; (try dsimp only at hSw); (try obtain ⟨hSw0, hSw1, hSw2, hSw3⟩ := hSw); go_simp; try with_reducible rfl)
      (try simp only [Act.put, List.getElem_toArray, List.getElem_cons_zero, List.getElem_cons_succ, List.setIfInBounds_toArray, List.set_cons_zero, List.set_cons_succ])
      refine wpAnyB_take (i := 8) (v := ?_) rfl (by decide) (by kernel_rfl) (by kernel_rfl) (by kernel_rfl) (fun _ _ _ h => h) (Or.inl ⟨by rfl, ?hy8⟩) hS0 (fun _ => hT0) ?_
      case hy8 => (intro W hSw; (try dsimp only at hSw); (try obtain ⟨hSw0, hSw1, hSw2, hSw3⟩ := hSw); go_simp; try with_reducible rfl)
      (try simp only [Act.put, List.getElem_toArray, List.getElem_cons_zero, List.getElem_cons_succ, List.setIfInBounds_toArray, List.set_cons_zero, List.set_cons_succ])
      refine wpAnyB_take (i := 9) (v := ?_) rfl (by decide) (by kernel_rfl) (by kernel_rfl) (by kernel_rfl) (fun _ _ _ h => h) (Or.inl ⟨by rfl, ?hy9⟩) hS0 (fun _ => hT0) ?_
      case hy9 => (intro W hSw; (try dsimp only at hSw); (try obtain ⟨hSw0, hSw1, hSw2, hSw3⟩ := hSw); go_simp; try with_reducible rfl)
      (try simp only [Act.put, List.getElem_toArray, List.getElem_cons_zero, List.getElem_cons_succ, List.setIfInBounds_toArray, List.set_cons_zero, List.set_cons_succ])
      refine wpAnyB_take (i := 10) (v := ?_) rfl (by decide) (by kernel_rfl) (by kernel_rfl) (by kernel_rfl) (fun _ _ _ h => h) (Or.inl ⟨by rfl, ?hy10⟩) hS0 (fun _ => hT0) ?_
      case hy10 => (intro W hSw; (try dsimp only at hSw); (try obtain ⟨hSw0, hSw1, hSw2, hSw3⟩ := hSw); go_simp; try with_reducible rfl)
      (try simp only [Act.put, List.getElem_toArray, List.getElem_cons_zero, List.getElem_cons_succ, List.setIfInBounds_toArray, List.set_cons_zero, List.set_cons_succ])
      refine wpAnyB_take (i := 11) (v := ?_) rfl (by decide) (by kernel_rfl) (by kernel_rfl) (by kernel_rfl) (fun _ _ _ h => h) (Or.inl ⟨by rfl, ?hy11⟩) hS0 (fun _ => hT0) ?_
      case hy11 => (intro W hSw; (try dsimp only at hSw); (try obtain ⟨hSw0, hSw1, hSw2, hSw3⟩ := hSw); go_simp; try with_reducible rfl)
      (try simp only [Act.put, List.getElem_toArray, List.getElem_cons_zero, List.getElem_cons_succ, List.setIfInBounds_toArray, List.set_cons_zero, List.set_cons_succ])
      refine wpAnyB_ready (rs := [12]) (by kernel_rfl) (by simp) ?_
      refine AllReadyB.cons rfl (fun K hK => ?_) AllReadyB.nil
      go_simp
      go_at_call 35
      refine (impl_listed SS HSL.out HSJ.out wd _ FA HARd.out HUAd.out).mono ?_
      rintro e w4 ⟨rfl, hb4⟩
      have hC1 : Below wr.heap.size wr w4 := hC0.trans (hb4.mono hC0.size)
      have hS1 := HS.out _ hC1
      rw [HL.out]
      (try dsimp only)
      refine hK.out _ _ hS1 (fun _ => trivial) ?_
      clear hK K
      (try simp only [Act.put, List.getElem_toArray, List.getElem_cons_zero, List.getElem_cons_succ, List.setIfInBounds_toArray, List.set_cons_zero, List.set_cons_succ])
      refine wpAnyB_ready (rs := [13]) (by kernel_rfl) (by simp) ?_
      refine AllReadyB.cons rfl (fun K hK => ?_) AllReadyB.nil
      go_simp
      refine hK.out _ _ hS1 (fun _ => trivial) ?_
      clear hK K
      (try simp only [Act.put, List.getElem_toArray, List.getElem_cons_zero, List.getElem_cons_succ, List.setIfInBounds_toArray, List.set_cons_zero, List.set_cons_succ])
      refine wpAnyB_take (i := 14) (v := ?_) rfl (by decide) (by kernel_rfl) (by kernel_rfl) (by kernel_rfl) (fun _ _ _ h => h) (Or.inl ⟨by rfl, ?hy14⟩) hS1 (fun _ => hT0) ?_
      case hy14 => (intro W hSw; (try dsimp only at hSw); (try obtain ⟨hSw0, hSw1, hSw2, hSw3⟩ := hSw); go_simp; try with_reducible rfl)
      (try simp only [Act.put, List.getElem_toArray, List.getElem_cons_zero, List.getElem_cons_succ, List.setIfInBounds_toArray, List.set_cons_zero, List.set_cons_succ])
      refine wpAnyB_end (by kernel_rfl) ?_
      have hB9 : Below w.heap.size w w4 := hBw0.trans (hC1.mono hBw0.size)
      clear hS0 hS1 hT0 HS hC0 hC1
      go_wp2
      go_ret
      exact ⟨ret_str hf.out.symm, hB9⟩
theorem impl_patternText_of (p : P) (ih : ∀ k ∈ p.ks, TxtPI k) : TxtPI p := by
  intro xs hw d hd t ht hsh
  cases d with
  | zero => rw [shapeB] at hsh; cases hsh
  | succ d =>
    obtain ⟨ho, -, -⟩ := shape_parts hsh
    rcases ops_of ho with h | h | h | h | h | h
    · exact patternText_1 p ih h xs hw (d + 1) hd t ht hsh
    · exact patternText_2 p ih h xs hw (d + 1) hd t ht hsh
    · exact patternText_3 p ih h xs hw (d + 1) hd t ht hsh
    · exact patternText_4 p ih h xs hw (d + 1) hd t ht hsh
    · exact patternText_5 p ih h xs hw (d + 1) hd t ht hsh
    · exact patternText_6 p ih h xs hw (d + 1) hd t ht hsh
theorem impl_patternText : ∀ p, TxtPI p := P.indv impl_patternText_of
set_option maxRecDepth 100000 in
set_option maxHeartbeats 1600000 in
theorem impl_FormatPattern (xs : List Dt) (t : Ty) (p : P) (hz : p.size ≤ 1048576) (w : World) (x : Value) (F : List Nat) (cs : List Value) (G : List Nat) (hx : Arr w (DtR w) xs x F) (hf : Under w.heap.size F) (hv : PR w p cs G) (hg : Under w.heap.size G) :
    Calls Tryz.prog 10 #[x, .agg #[.int .i64 t.d, .int .i64 t.i], .agg cs.toArray] w fun e w' => e = .returned (.string (fmtP xs t p)) ∧ Below w.heap.size w w' := by
  obtain ⟨kv, rfl, ha⟩ := (PR_iff _ _ _).1 hv
  obtain ⟨A, cap, rfl, hc1, hc2⟩ := hx.form
  obtain ⟨A4, cap4, rfl, hc3, hc4⟩ := ha.form
  have HX := Lib.hid hx
  have HF := Lib.hid hf
  have HV := Lib.hid hv
  have HG := Lib.hid hg
  clear hx hf hv hg
  clear ha
  have hB0 : Below w.heap.size w ((w.alloc (.cells #[.int .i64 t.d, .int .i64 t.i] 33)).alloc (.cells #[.int .i64 p.op, .int .i64 p.ct, .int .i64 p.n, .int .i64 p.m, .int .i64 p.va, .slice A4 p.ks.length cap4] 37)) := ((Below.refl _ _).alloc (Nat.le_refl _) _).alloc (by simp) _
  have KT : Hid (Blk ((w.alloc (.cells #[.int .i64 t.d, .int .i64 t.i] 33)).alloc (.cells #[.int .i64 p.op, .int .i64 p.ct, .int .i64 p.n, .int .i64 p.m, .int .i64 p.va, .slice A4 p.ks.length cap4] 37)) w.heap.size 33 #[.int .i64 t.d, .int .i64 t.i]) := (Blk.new w _ _).same (Below.heap_alloc _ _ _ (by simp))
  have KV : Hid (Blk ((w.alloc (.cells #[.int .i64 t.d, .int .i64 t.i] 33)).alloc (.cells #[.int .i64 p.op, .int .i64 p.ct, .int .i64 p.n, .int .i64 p.m, .int .i64 p.va, .slice A4 p.ks.length cap4] 37)) (w.heap.size + 1) 37 #[.int .i64 p.op, .int .i64 p.ct, .int .i64 p.n, .int .i64 p.m, .int .i64 p.va, .slice A4 p.ks.length cap4]) := by have h := Blk.new (w.alloc (.cells #[.int .i64 t.d, .int .i64 t.i] 33)) 37 #[.int .i64 p.op, .int .i64 p.ct, .int .i64 p.n, .int .i64 p.m, .int .i64 p.va, .slice A4 p.ks.length cap4]; rw [World.size_alloc] at h; exact h
  go_enter Tryz.func10, Tryz.ntmps10
  go_wp2_with fail
  obtain ⟨W2, hW2⟩ : ∃ W2, W2 = ((w.alloc (.cells #[.int .i64 t.d, .int .i64 t.i] 33)).alloc (.cells #[.int .i64 p.op, .int .i64 p.ct, .int .i64 p.n, .int .i64 p.m, .int .i64 p.va, .slice A4 p.ks.length cap4] 37)) := ⟨_, rfl⟩
  rw [← hW2] at hB0 KT KV ⊢
  clear hW2
  refine (impl_PatternValid xs t p hz W2 _ F _ G (ArrDt.below HX.out hB0 HF.out) (HF.out.mono hB0.size) (HV.out.below hB0 HG.out) (HG.out.mono hB0.size)).mono ?_
  rintro e w1 ⟨rfl, hb1⟩
  have hB1 := hB0.trans (hb1.mono hB0.size)
  have KT1 := Lib.hid (KT.out.same (hb1.block _ KT.out.lt))
  have KV1 := Lib.hid (KV.out.same (hb1.block _ KV.out.lt))
  have y0 : w1.cell? ⟨w.heap.size, 0, none⟩ = some (.int .i64 t.d) := (KT1.out.cell 0).trans (by simp)
  have y1 : w1.cell? ⟨w.heap.size, 1, none⟩ = some (.int .i64 t.i) := (KT1.out.cell 1).trans (by simp)
  have klt := KT1.out.lt
  have z0 : w1.cell? ⟨w.heap.size + 1, 0, none⟩ = some (.int .i64 p.op) := (KV1.out.cell 0).trans (by simp)
  have z1 : w1.cell? ⟨w.heap.size + 1, 1, none⟩ = some (.int .i64 p.ct) := (KV1.out.cell 1).trans (by simp)
  have z2 : w1.cell? ⟨w.heap.size + 1, 2, none⟩ = some (.int .i64 p.n) := (KV1.out.cell 2).trans (by simp)
  have z3 : w1.cell? ⟨w.heap.size + 1, 3, none⟩ = some (.int .i64 p.m) := (KV1.out.cell 3).trans (by simp)
  have z4 : w1.cell? ⟨w.heap.size + 1, 4, none⟩ = some (.int .i64 p.va) := (KV1.out.cell 4).trans (by simp)
  have z5 : w1.cell? ⟨w.heap.size + 1, 5, none⟩ = some (.slice A4 p.ks.length cap4) := (KV1.out.cell 5).trans (by simp)
  have klt2 := KV1.out.lt
  cases q0 : patternValidB xs t p with
  | false =>
    have hf : Hid (fmtP xs t p = ⟨#[]⟩) := if_neg (by simp [q0])
    clear q0
    go_wp2
    go_ret
    exact ⟨ret_str hf.out.symm, hB1⟩
  | true =>
    have hf : Hid (fmtP xs t p = bs (pT xs 10 t p)) := if_pos q0
    obtain ⟨h1, h2, h3, h4⟩ := patValid_split q0
    have H1 := Lib.hid h1
    have H2 := Lib.hid h2
    have H3 := Lib.hid h3
    have H4 := Lib.hid h4
    clear h1 h2 h3 h4
    clear q0
    go_wp2_with fail
    refine (impl_patternText p xs H1.out 10 (Nat.le_refl _) t H2.out H3.out H4.out w1 _ F _ G (ArrDt.below HX.out hB1 HF.out) (HF.out.mono hB1.size) (HV.out.below hB1 HG.out) (HG.out.mono hB1.size)).mono ?_
    rintro e w2 ⟨rfl, hb2⟩
    have hB2 := hB1.trans (hb2.mono hB1.size)
    go_wp2
    go_ret
    exact ⟨ret_str hf.out.symm, hB2⟩
end Go.Proofs.YtilndhmegaccmaaGreatDoor

namespace Go.Proofs.YtilndhmegaccmaaGreatDoor
open Go.ChangeShapes Go.WideShapes Go.ChangeAt Go.RowKit

section
variable {H : Type} {enc : TypeId × Value → H} {P : Program} {w : World} {base : Nat} {spare : Nat → Bool} {held : Bool}

theorem cell_lt {w : World} {a : Addr} {v : Value} (h : w.cell? a = some v) : a.block < w.heap.size := by
  rcases Nat.lt_or_ge a.block w.heap.size with hl | hl
  · exact hl
  · unfold World.cell? at h
    rw [Array.getElem?_eq_none hl] at h
    cases h

theorem open_Arr {α : Type} (R : α → List Value → List Nat → Prop) {t e : TypeId} {k n fuel : Nat} {cs : List Value} {x : DataW H × List MemPlace} (ht : P.underlying t = some (.slice e)) (hk : P.cellsOf e = k) (hk0 : 0 < k) (hf : fuel = n + 1)
    (hR : ∀ ds y, DataW.trod enc P w base spare held n e ds = some y → ds.length = k → ∃ a F, R a ds F ∧ Under w.heap.size F)
    (h : DataW.trod enc P w base spare held fuel t cs = some x) : ∃ xs v F, cs = [v] ∧ Arr w R xs v F ∧ Under w.heap.size F := by
  subst hf
  rcases DataW.trod_slice ht h with ⟨rfl, -⟩ | ⟨a, len, cap, elems, rest, m, hm, rfl, -, -, hl, hmax, hlen, hel, -, -⟩
  · exact ⟨[], _, [], rfl, Arr.nil, Under.nil _⟩
  · obtain rfl : n = m := by omega
    by_cases h0 : len = 0
    · subst h0
      exact ⟨[], _, [], rfl, ⟨_, _, rfl, hl, hmax, .inl ⟨rfl, rfl⟩⟩, Under.nil _⟩
    · have get : ∀ i, i < len → ∃ ds y, (∀ j, j < k → w.cell? (a.add (i * k + j)) = ds[j]?) ∧ ds.length = k ∧ DataW.trod enc P w base spare held n e ds = some y := fun i hi => by
        have h1 := hel i hi
        rw [List.getElem?_eq_getElem (by omega), Option.bind_eq_some_iff] at h1
        obtain ⟨ds, h2, h3⟩ := h1
        obtain ⟨-, h4, h5⟩ := World.cells?_some h2
        rw [hk] at h4 h5
        refine ⟨ds, _, fun j hj => ?_, h4, h3⟩
        rw [← h5 j hj]
        congr 1
        unfold Addr.add
        by_cases e1 : i * k = 0 <;> by_cases e2 : j = 0 <;> simp [e1, e2, Nat.add_assoc]
      obtain ⟨b, off, spot⟩ := a
      obtain ⟨ds0, y0, g1, g2, -⟩ := get 0 (by omega)
      have hc0 : w.cell? ⟨b, off, spot⟩ = some (ds0[0]'(by omega)) := by
        have := g1 0 hk0
        simpa [Addr.add, List.getElem?_eq_getElem (show 0 < ds0.length by omega)] using this
      have hspot : spot = none := by simpa using World.cell?_spot hc0
      subst hspot
      have hb : b < w.heap.size := cell_lt hc0
      have key : ∀ m, m ≤ len → ∃ (xs : List α) (cs : List Value) (F : List Nat), xs.length = m ∧ cs.length = m * k ∧ CellsAt w b off cs ∧ Flat R xs cs F ∧ Under w.heap.size F := by
        intro m
        induction m with
        | zero => intro _; exact ⟨[], [], [], rfl, by simp, fun j u hj => by simp at hj, ⟨rfl, rfl⟩, Under.nil _⟩
        | succ m ih =>
          intro hm
          obtain ⟨xs, cs, F, h1, h2, h3, h4, h5⟩ := ih (by omega)
          obtain ⟨ds, y, g1, g2, g3⟩ := get m (by omega)
          obtain ⟨z, G, r1, r2⟩ := hR ds y g3 g2
          refine ⟨xs ++ [z], cs ++ ds, F ++ G, by simp [h1], by simp [h2, g2, Nat.add_mul], h3.append (fun j u hj => ?_), h4.append (Flat.one r1), fun c hc => ?_⟩
          · have hjk : j < k := by rw [← g2]; exact (List.getElem?_eq_some_iff.1 hj).1
            have := g1 j hjk
            rw [hj, Addr.add_lit] at this
            rw [h2, ← this]
            congr 2
            omega
          · rcases List.mem_append.1 hc with hc | hc
            · exact h5 c hc
            · exact r2 c hc
      obtain ⟨xs, cs, F, h1, h2, h3, h4, h5⟩ := key len (Nat.le_refl _)
      refine ⟨xs, _, b :: F, rfl, ⟨_, _, by rw [h1], by omega, hmax, .inr ⟨b, off, cs, F, rfl, h3, h4, rfl⟩⟩, fun c hc => ?_⟩
      rcases List.mem_cons.1 hc with rfl | hc
      · exact hb
      · exact h5 c hc

theorem one_field {fs : Array Field} {n : Nat} {cs : List Value} {xs : List (DataW H × List MemPlace)}
    (hf : ∀ (i : Nat) (f : Field), fs[i]? = some f → DataW.trod enc P w base spare held n f.type ((cs.drop f.offset).take (P.cellsOf f.type)) = xs[i]?)
    (hone : Deep.oneCellFields P fs = true) (hxl : xs.length = fs.size) (i : Nat) (f : Field) (hi : fs[i]? = some f) (c : Value) (hc : cs[i]? = some c) :
    ∃ y, DataW.trod enc P w base spare held n f.type [c] = some y := by
  obtain ⟨h1, h2⟩ := Deep.hone_of hone i f hi
  have h := hf i f hi
  have hlt : i < fs.size := (Array.getElem?_eq_some_iff.1 hi).1
  rw [List.getElem?_eq_getElem (show i < xs.length by omega), h1, h2] at h
  obtain ⟨hlc, hcc⟩ := List.getElem?_eq_some_iff.1 hc
  rw [List.drop_eq_getElem_cons hlc, hcc] at h
  exact ⟨_, h⟩

theorem sub_field {fs : Array Field} {n : Nat} {cs : List Value} {xs : List (DataW H × List MemPlace)}
    (hf : ∀ (i : Nat) (f : Field), fs[i]? = some f → DataW.trod enc P w base spare held n f.type ((cs.drop f.offset).take (P.cellsOf f.type)) = xs[i]?)
    (hxl : xs.length = fs.size) (i : Nat) (f : Field) (hi : fs[i]? = some f) (k off : Nat) (hk : P.cellsOf f.type = k) (ho : f.offset = off) :
    ∃ y, DataW.trod enc P w base spare held n f.type ((cs.drop off).take k) = some y := by
  have h := hf i f hi
  have hlt : i < fs.size := (Array.getElem?_eq_some_iff.1 hi).1
  rw [List.getElem?_eq_getElem (show i < xs.length by omega), hk, ho] at h
  exact ⟨_, h⟩

theorem open_slice_arg {α : Type} (R : α → List Value → List Nat → Prop) {t e : TypeId} {k : Nat} {r : Reach} {b0 : Nat} {v : Value} {d : DataW H} {ps : List MemPlace} (ht : P.underlying t = some (.slice e)) (hk : P.cellsOf e = k) (hk0 : 0 < k)
    (hR : ∀ n ds y, DataW.trod enc P w base spare held n e ds = some y → ∃ a F, R a ds F ∧ Under w.heap.size F)
    (hval : Value.okWide P w r b0 t v) (h : DataW.Trod enc P w base spare held t v d ps) : ∃ xs F, Arr w R xs v F ∧ Under w.heap.size F := by
  obtain ⟨a, len, cap, rfl⟩ := okWide_slice ht hval
  obtain ⟨fuel, hf⟩ := h
  cases fuel with
  | zero => simp [DataW.trod] at hf
  | succ n =>
    obtain ⟨xs, v, F, hv, ha, hF⟩ := open_Arr R ht hk hk0 rfl (fun ds y hd _ => hR n ds y hd) hf
    have : v = .slice a len cap := by simpa [Value.cells] using hv.symm
    subst this
    exact ⟨xs, F, ha, hF⟩
end
end Go.Proofs.YtilndhmegaccmaaGreatDoor

namespace Go.Proofs.YtilndhmegaccmaaGreatDoor
open Go.ChangeShapes Go.WideShapes Go.ChangeAt Go.RowKit
set_option maxRecDepth 100000

theorem cellsOf_lawsTy : Tryz.prog.cellsOf 24 = 2 := by kernel_rfl

theorem open_Ty_cells {H : Type} {enc : TypeId × Value → H} {w : World} {base : Nat} {spare : Nat → Bool} {held : Bool} (fuel : Nat) (cs : List Value) (x : DataW H × List MemPlace)
    (h : DataW.trod enc Tryz.prog w base spare held fuel 24 cs = some x) : ∃ v F, TyR w v cs F ∧ Under w.heap.size F := by
  obtain ⟨xs, n, rfl, -, hl, hxl, hf⟩ := DataW.trod_struct Tryz.underlying24 h
  rw [cellsOf_lawsTy] at hl
  match cs, hl with
  | [c0, c1], _ =>
  obtain ⟨y0, f0⟩ := sub_field hf hxl 0 _ rfl 1 0 (by kernel_rfl) rfl
  obtain ⟨i0, e0, -, -⟩ := DataW.trod_int Tryz.underlying3 f0
  obtain rfl : c0 = .int .i64 i0 := by simpa using e0
  obtain ⟨y1, f1⟩ := sub_field hf hxl 1 _ rfl 1 1 (by kernel_rfl) rfl
  obtain ⟨i1, e1, -, -⟩ := DataW.trod_int Tryz.underlying3 f1
  obtain rfl : c1 = .int .i64 i1 := by simpa using e1
  exact ⟨⟨i0, i1⟩, [], ⟨rfl, rfl⟩, Under.nil _⟩

theorem open_Ty {H : Type} {enc : TypeId × Value → H} {w : World} {base : Nat} {spare : Nat → Bool} {held : Bool} {r : Reach} {b0 : Nat} {v : Value} {d : DataW H} {ps : List MemPlace} (hval : Value.okWide Tryz.prog w r b0 24 v)
    (h : DataW.Trod enc Tryz.prog w base spare held 24 v d ps) : ∃ (x : Ty) (cs : List Value) (F : List Nat), v = .agg cs.toArray ∧ TyR w x cs F ∧ Under w.heap.size F := by
  obtain ⟨cs, rfl, -⟩ := okWide_struct Tryz.underlying24 hval
  obtain ⟨fuel, hf⟩ := h
  obtain ⟨x, F, h1, h2⟩ := open_Ty_cells fuel _ _ hf
  exact ⟨x, cs.toList, F, by simp, h1, h2⟩
theorem open_Tys {H : Type} {enc : TypeId × Value → H} {w : World} {base : Nat} {spare : Nat → Bool} {held : Bool} {r : Reach} {b0 : Nat} {v : Value} {d : DataW H} {ps : List MemPlace} (hval : Value.okWide Tryz.prog w r b0 69 v)
    (h : DataW.Trod enc Tryz.prog w base spare held 69 v d ps) : ∃ (x : List Ty) (F : List Nat), Arr w (TyR w) x v F ∧ Under w.heap.size F :=
  open_slice_arg (TyR w) Tryz.underlying69 cellsOf_lawsTy (by decide) (fun n ds y hd => open_Ty_cells n ds y hd) hval h
end Go.Proofs.YtilndhmegaccmaaGreatDoor

namespace Go.Proofs.YtilndhmegaccmaaGreatDoor
open Go.ChangeShapes Go.WideShapes Go.ChangeAt Go.RowKit
set_option maxRecDepth 100000

theorem cellsOf_lawsKt : Tryz.prog.cellsOf 71 = 3 := by kernel_rfl

theorem open_Kt_cells {H : Type} {enc : TypeId × Value → H} {w : World} {base : Nat} {spare : Nat → Bool} {held : Bool} (fuel : Nat) (cs : List Value) (x : DataW H × List MemPlace)
    (h : DataW.trod enc Tryz.prog w base spare held fuel 71 cs = some x) : ∃ v F, KtR w v cs F ∧ Under w.heap.size F := by
  obtain ⟨xs, n, rfl, -, hl, hxl, hf⟩ := DataW.trod_struct Tryz.underlying71 h
  rw [cellsOf_lawsKt] at hl
  match cs, hl with
  | [c0, c1, c2], _ =>
  obtain ⟨y0, f0⟩ := sub_field hf hxl 0 _ rfl 1 0 (by kernel_rfl) rfl
  obtain ⟨s0, e0, -, hs0⟩ := DataW.trod_string Tryz.underlying9 f0
  obtain rfl : c0 = .string s0 := by simpa using e0
  obtain ⟨y1, f1⟩ := sub_field hf hxl 1 _ rfl 1 1 (by kernel_rfl) rfl
  cases n with
  | zero => simp [DataW.trod] at f1
  | succ n =>
  obtain ⟨l1, kv, F, ek, ha, hF⟩ := open_Arr (TyR w) Tryz.underlying69 cellsOf_lawsTy (by decide) rfl (fun ds y hd _ => open_Ty_cells n ds y hd) f1
  obtain rfl : c1 = kv := by simpa using ek
  obtain ⟨y2, f2⟩ := sub_field hf hxl 2 _ rfl 1 2 (by kernel_rfl) rfl
  obtain ⟨i2, e2, -, -⟩ := DataW.trod_int Tryz.underlying3 f2
  obtain rfl : c2 = .int .i64 i2 := by simpa using e2
  exact ⟨⟨s0, l1, i2⟩, F, ⟨_, rfl, ha, (by unfold maxLen at hs0; omega)⟩, hF⟩

theorem open_Kt {H : Type} {enc : TypeId × Value → H} {w : World} {base : Nat} {spare : Nat → Bool} {held : Bool} {r : Reach} {b0 : Nat} {v : Value} {d : DataW H} {ps : List MemPlace} (hval : Value.okWide Tryz.prog w r b0 71 v)
    (h : DataW.Trod enc Tryz.prog w base spare held 71 v d ps) : ∃ (x : Kt) (cs : List Value) (F : List Nat), v = .agg cs.toArray ∧ KtR w x cs F ∧ Under w.heap.size F := by
  obtain ⟨cs, rfl, -⟩ := okWide_struct Tryz.underlying71 hval
  obtain ⟨fuel, hf⟩ := h
  obtain ⟨x, F, h1, h2⟩ := open_Kt_cells fuel _ _ hf
  exact ⟨x, cs.toList, F, by simp, h1, h2⟩
theorem open_Kts {H : Type} {enc : TypeId × Value → H} {w : World} {base : Nat} {spare : Nat → Bool} {held : Bool} {r : Reach} {b0 : Nat} {v : Value} {d : DataW H} {ps : List MemPlace} (hval : Value.okWide Tryz.prog w r b0 43 v)
    (h : DataW.Trod enc Tryz.prog w base spare held 43 v d ps) : ∃ (x : List Kt) (F : List Nat), Arr w (KtR w) x v F ∧ Under w.heap.size F :=
  open_slice_arg (KtR w) Tryz.underlying43 cellsOf_lawsKt (by decide) (fun n ds y hd => open_Kt_cells n ds y hd) hval h
end Go.Proofs.YtilndhmegaccmaaGreatDoor

namespace Go.Proofs.YtilndhmegaccmaaGreatDoor
open Go.ChangeShapes Go.WideShapes Go.ChangeAt Go.RowKit
set_option maxRecDepth 100000

theorem cellsOf_lawsDt : Tryz.prog.cellsOf 45 = 2 := by kernel_rfl

theorem open_Dt_cells {H : Type} {enc : TypeId × Value → H} {w : World} {base : Nat} {spare : Nat → Bool} {held : Bool} (fuel : Nat) (cs : List Value) (x : DataW H × List MemPlace)
    (h : DataW.trod enc Tryz.prog w base spare held fuel 45 cs = some x) : ∃ v F, DtR w v cs F ∧ Under w.heap.size F := by
  obtain ⟨xs, n, rfl, -, hl, hxl, hf⟩ := DataW.trod_struct Tryz.underlying45 h
  rw [cellsOf_lawsDt] at hl
  match cs, hl with
  | [c0, c1], _ =>
  obtain ⟨y0, f0⟩ := sub_field hf hxl 0 _ rfl 1 0 (by kernel_rfl) rfl
  obtain ⟨s0, e0, -, hs0⟩ := DataW.trod_string Tryz.underlying9 f0
  obtain rfl : c0 = .string s0 := by simpa using e0
  obtain ⟨y1, f1⟩ := sub_field hf hxl 1 _ rfl 1 1 (by kernel_rfl) rfl
  cases n with
  | zero => simp [DataW.trod] at f1
  | succ n =>
  obtain ⟨l1, kv, F, ek, ha, hF⟩ := open_Arr (KtR w) Tryz.underlying43 cellsOf_lawsKt (by decide) rfl (fun ds y hd _ => open_Kt_cells n ds y hd) f1
  obtain rfl : c1 = kv := by simpa using ek
  exact ⟨⟨s0, l1⟩, F, ⟨_, rfl, ha, (by unfold maxLen at hs0; omega)⟩, hF⟩

theorem open_Dt {H : Type} {enc : TypeId × Value → H} {w : World} {base : Nat} {spare : Nat → Bool} {held : Bool} {r : Reach} {b0 : Nat} {v : Value} {d : DataW H} {ps : List MemPlace} (hval : Value.okWide Tryz.prog w r b0 45 v)
    (h : DataW.Trod enc Tryz.prog w base spare held 45 v d ps) : ∃ (x : Dt) (cs : List Value) (F : List Nat), v = .agg cs.toArray ∧ DtR w x cs F ∧ Under w.heap.size F := by
  obtain ⟨cs, rfl, -⟩ := okWide_struct Tryz.underlying45 hval
  obtain ⟨fuel, hf⟩ := h
  obtain ⟨x, F, h1, h2⟩ := open_Dt_cells fuel _ _ hf
  exact ⟨x, cs.toList, F, by simp, h1, h2⟩
theorem open_Dts {H : Type} {enc : TypeId × Value → H} {w : World} {base : Nat} {spare : Nat → Bool} {held : Bool} {r : Reach} {b0 : Nat} {v : Value} {d : DataW H} {ps : List MemPlace} (hval : Value.okWide Tryz.prog w r b0 22 v)
    (h : DataW.Trod enc Tryz.prog w base spare held 22 v d ps) : ∃ (x : List Dt) (F : List Nat), Arr w (DtR w) x v F ∧ Under w.heap.size F :=
  open_slice_arg (DtR w) Tryz.underlying22 cellsOf_lawsDt (by decide) (fun n ds y hd => open_Dt_cells n ds y hd) hval h
end Go.Proofs.YtilndhmegaccmaaGreatDoor

namespace Go.Proofs.YtilndhmegaccmaaGreatDoor
open Go.ChangeShapes Go.WideShapes Go.ChangeAt Go.RowKit
set_option maxRecDepth 100000

theorem cellsOf_lawsP : Tryz.prog.cellsOf 27 = 6 := by kernel_rfl

theorem open_P_cells {H : Type} {enc : TypeId × Value → H} {w : World} {base : Nat} {spare : Nat → Bool} {held : Bool} (fuel : Nat) : ∀ (cs : List Value) (x : DataW H × List MemPlace),
    DataW.trod enc Tryz.prog w base spare held fuel 27 cs = some x → ∃ v F, PR w v cs F ∧ Under w.heap.size F := by
  induction fuel using Nat.strongRecOn with
  | ind fuel ih =>
  intro cs x h
  obtain ⟨xs, n, rfl, -, hl, hxl, hf⟩ := DataW.trod_struct Tryz.underlying27 h
  rw [cellsOf_lawsP] at hl
  match cs, hl with
  | [c0, c1, c2, c3, c4, c5], _ =>
  obtain ⟨y, hq⟩ := one_field hf (by kernel_rfl) hxl 5 _ rfl c5 rfl
  obtain ⟨y0, f0⟩ := one_field hf (by kernel_rfl) hxl 0 _ rfl c0 rfl
  obtain ⟨i0, e0, -, -⟩ := DataW.trod_int Tryz.underlying3 f0
  obtain ⟨y1, f1⟩ := one_field hf (by kernel_rfl) hxl 1 _ rfl c1 rfl
  obtain ⟨i1, e1, -, -⟩ := DataW.trod_int Tryz.underlying3 f1
  obtain ⟨y2, f2⟩ := one_field hf (by kernel_rfl) hxl 2 _ rfl c2 rfl
  obtain ⟨i2, e2, -, -⟩ := DataW.trod_int Tryz.underlying3 f2
  obtain ⟨y3, f3⟩ := one_field hf (by kernel_rfl) hxl 3 _ rfl c3 rfl
  obtain ⟨i3, e3, -, -⟩ := DataW.trod_int Tryz.underlying3 f3
  obtain ⟨y4, f4⟩ := one_field hf (by kernel_rfl) hxl 4 _ rfl c4 rfl
  obtain ⟨i4, e4, -, -⟩ := DataW.trod_int Tryz.underlying3 f4
  simp only [List.cons.injEq, and_true] at e0 e1 e2 e3 e4
  subst e0 e1 e2 e3 e4
  cases n with
  | zero => simp [DataW.trod] at hq
  | succ n =>
    obtain ⟨ks, kv, F, ek, ha, hF⟩ := open_Arr (PR w) Tryz.underlying25 cellsOf_lawsP (by decide) rfl (fun ds y hd _ => ih n (by omega) ds y hd) hq
    simp only [List.cons.injEq, and_true] at ek
    subst ek
    exact ⟨⟨i0, i1, i2, i3, i4, ks⟩, F, (PR_iff _ _ _).2 ⟨_, rfl, ha⟩, hF⟩

theorem open_P {H : Type} {enc : TypeId × Value → H} {w : World} {base : Nat} {spare : Nat → Bool} {held : Bool} {r : Reach} {b0 : Nat} {v : Value} {d : DataW H} {ps : List MemPlace} (hval : Value.okWide Tryz.prog w r b0 27 v)
    (h : DataW.Trod enc Tryz.prog w base spare held 27 v d ps) : ∃ (x : P) (cs : List Value) (F : List Nat), v = .agg cs.toArray ∧ PR w x cs F ∧ Under w.heap.size F := by
  obtain ⟨cs, rfl, -⟩ := okWide_struct Tryz.underlying27 hval
  obtain ⟨fuel, hf⟩ := h
  obtain ⟨x, F, h1, h2⟩ := open_P_cells fuel _ _ hf
  exact ⟨x, cs.toList, F, by simp, h1, h2⟩
end Go.Proofs.YtilndhmegaccmaaGreatDoor
