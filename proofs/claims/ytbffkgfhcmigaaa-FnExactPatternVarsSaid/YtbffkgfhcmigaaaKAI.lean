/-
  Lemmas and contracts of functions: Contract of eqVarType at equal arguments. Conditions: both stand for the same. Contract of eqVarTypeS at equal lists. Conditions: both stand for the same list. heldVarTypeS: what mark wrote is there. Conditions: the parts are no more than 1099511627776. The number of variables of a valid pattern is small. Conditions: none.
-/
import Derived.Test.YtbffkgfhcmigaaaKAA
import Derived.Test.YtbffkgfhcmigaaaChecked
import Derived.Deep.RegionHeld3
import Derived.Test.YtbffkgfhcmigaaaKAH
import Derived.Deep.RegionWith
import Derived.Test.YtbffkgfhcmigaaaKAG

set_option linter.unusedVariables false
set_option linter.unusedSimpArgs false

namespace Go.Proofs.Ytbffkgfhcmigaaa
open Go.RowKit

theorem VtR_form {w : World} {x : Vt} {cs : List Value} {F : List Nat} (h : VtR w x cs F) : cs = [.int .i64 x.var, .int .i64 x.ty.d, .int .i64 x.ty.i] := h.1
theorem VtR.below {w w' : World} {B : Nat} {v : Vt} {cs : List Value} {F : List Nat} (h : VtR w v cs F) (_ : Below B w w') (_ : Under B F) : VtR w' v cs F := h
theorem ArrVt.mono {w w' : World} {vs : List Vt} {x : Value} {F : List Nat} (h : Arr w (VtR w) vs x F) (hF : Kept F w w') : Arr w' (VtR w') vs x F := h.mono hF fun _ _ _ _ _ h => h
theorem ArrVt.below {w w' : World} {B : Nat} {vs : List Vt} {x : Value} {F : List Nat} (h : Arr w (VtR w) vs x F) (hb : Below B w w') (hF : Under B F) : Arr w' (VtR w') vs x F := ArrVt.mono h (.of_below hb hF)
theorem ArrVt.drew {w : World} {vs : List Vt} {x : Value} {F : List Nat} (h : Arr w (VtR w) vs x F) : Arr w.drew (VtR w.drew) vs x F := ArrVt.mono (w := w) h (fun _ _ => rfl)
theorem VtR.drew {w : World} {v : Vt} {cs : List Value} {F : List Nat} (h : VtR w v cs F) : VtR w.drew v cs F := h
set_option maxRecDepth 100000 in
set_option maxHeartbeats 1600000 in
theorem eqVarType_any (x : Vt) (w : World) (cs ds : List Value) (F F2 : List Nat) (hv : VtR w x cs F) (hv2 : VtR w x ds F2) (hF : Under w.heap.size F) (hF2 : Under w.heap.size F2) :
    Calls Try.prog 105 #[.agg cs.toArray, .agg ds.toArray] w fun e w' => e = .returned (.bool true) ∧ Below w.heap.size w w' := by
  have ne_v : (x.var != x.var) = false := by simp
  obtain rfl := VtR_form hv
  obtain rfl := VtR_form hv2
  clear hv hv2 hF hF2
  go_enter Try.func105, Try.ntmps105
  go_wp2_with fail
  obtain ⟨W2, hW2⟩ : ∃ W2, W2 = (w.alloc (.cells #[.int .i64 x.var, .int .i64 x.ty.d, .int .i64 x.ty.i] 140)).alloc (.cells #[.int .i64 x.var, .int .i64 x.ty.d, .int .i64 x.ty.i] 140) := ⟨_, rfl⟩
  have hB2 : Below w.heap.size w W2 := by rw [hW2]; exact ((Below.refl _ _).alloc (Nat.le_refl _) _).alloc (by simp) _
  rw [← hW2]
  clear hW2
  refine (eqType_any x.ty W2 _ _ [] [] ⟨rfl, rfl⟩ ⟨rfl, rfl⟩ (Under.nil _) (Under.nil _)).mono ?_
  rintro e W3 ⟨rfl, hb3⟩
  have hB3 := hB2.trans (hb3.mono hB2.size)
  clear hb3
  go_wp2
  go_ret
  exact ⟨rfl, hB3⟩
end Go.Proofs.Ytbffkgfhcmigaaa

namespace Go.Proofs.Ytbffkgfhcmigaaa
open Go.RowKit

set_option maxHeartbeats 800000 in
theorem eqVarTypeS_any (ks : List Vt) (w : World) (F F2 : List Nat) (x y : Value) (hx : Arr w (VtR w) ks x F) (hy : Arr w (VtR w) ks y F2) (hF : Under w.heap.size F) (hF2 : Under w.heap.size F2) :
    Calls Try.prog 48 #[x, y] w fun e w' => e = .returned (.bool true) ∧ Below w.heap.size w w' := by
  have HX := Lib.hid hx
  have HY := Lib.hid hy
  obtain ⟨A, cap, rfl, hl, hm⟩ := hx.form
  obtain ⟨A', cap', rfl, hl', hm'⟩ := hy.form
  clear hx hy
  have HF := Lib.hid hF
  have HF2 := Lib.hid hF2
  clear hF hF2
  go_enter Try.func48, Try.ntmps48
  go_wp2
  go_loopw [5] (fun i wr => ∃ k : Nat, k ≤ ks.length ∧ i = .int .i64 k ∧ Below w.heap.size w wr) (fun i _ => ks.length - (intOf i).toNat)
  case atStart => exact ⟨0, Nat.zero_le _, rfl, Below.refl _ _⟩
  case round =>
    obtain ⟨k, hk, rfl, hB⟩ := hrel
    have hBs := hB.size
    by_cases hlt : k < ks.length
    · obtain ⟨b, off, cs, G, rfl, hb, hcs, hvc, hG⟩ := HX.out.get (VtR_len _) hlt
      have hbl := HF.out b hb
      have hGFc := HF.out.sub hG
      have hwc := hvc.below hB hGFc
      have hcsc := hcs.same (hB.block b hbl)
      obtain rfl := VtR_form hvc
      have c0 := hcsc 0 _ rfl
      have c1 := hcsc 1 _ rfl
      have c2 := hcsc 2 _ rfl
      simp only [Nat.add_zero] at c0
      clear hcs hcsc hvc hG
      have HV := Lib.hid hwc
      clear hwc
      have HG := Lib.hid hGFc
      clear hGFc
      obtain ⟨b2, off2, ds, G2, rfl, hb2, hds, hvd, hG2⟩ := HY.out.get (VtR_len _) hlt
      have hbl2 := HF2.out b2 hb2
      have hGFd := HF2.out.sub hG2
      have hwd := hvd.below hB hGFd
      have hcsd := hds.same (hB.block b2 hbl2)
      obtain rfl := VtR_form hvd
      have d0 := hcsd 0 _ rfl
      have d1 := hcsd 1 _ rfl
      have d2 := hcsd 2 _ rfl
      simp only [Nat.add_zero] at d0
      clear hds hcsd hvd hG2
      have HV2 := Lib.hid hwd
      clear hwd
      have HG2 := Lib.hid hGFd
      clear hGFd
      go_wp2_with fail
      have hkeep : ∀ U U' : World, (U.cell? ⟨b, off + k * 3, none⟩ = some (.int .i64 ks[k].var) ∧ U.cell? ⟨b, off + k * 3 + 1, none⟩ = some (.int .i64 ks[k].ty.d) ∧ U.cell? ⟨b, off + k * 3 + 2, none⟩ = some (.int .i64 ks[k].ty.i) ∧ U.cell? ⟨b2, off2 + k * 3, none⟩ = some (.int .i64 ks[k].var) ∧ U.cell? ⟨b2, off2 + k * 3 + 1, none⟩ = some (.int .i64 ks[k].ty.d) ∧ U.cell? ⟨b2, off2 + k * 3 + 2, none⟩ = some (.int .i64 ks[k].ty.i)) → Below U.heap.size U U' → wr.heap.size ≤ U.heap.size → (U'.cell? ⟨b, off + k * 3, none⟩ = some (.int .i64 ks[k].var) ∧ U'.cell? ⟨b, off + k * 3 + 1, none⟩ = some (.int .i64 ks[k].ty.d) ∧ U'.cell? ⟨b, off + k * 3 + 2, none⟩ = some (.int .i64 ks[k].ty.i) ∧ U'.cell? ⟨b2, off2 + k * 3, none⟩ = some (.int .i64 ks[k].var) ∧ U'.cell? ⟨b2, off2 + k * 3 + 1, none⟩ = some (.int .i64 ks[k].ty.d) ∧ U'.cell? ⟨b2, off2 + k * 3 + 2, none⟩ = some (.int .i64 ks[k].ty.i)) := fun U U' h hb hU => ⟨(hb.cell (Nat.lt_of_lt_of_le (show b < wr.heap.size from by omega) hU)).trans h.1, (hb.cell (Nat.lt_of_lt_of_le (show b < wr.heap.size from by omega) hU)).trans h.2.1, (hb.cell (Nat.lt_of_lt_of_le (show b < wr.heap.size from by omega) hU)).trans h.2.2.1, (hb.cell (Nat.lt_of_lt_of_le (show b2 < wr.heap.size from by omega) hU)).trans h.2.2.2.1, (hb.cell (Nat.lt_of_lt_of_le (show b2 < wr.heap.size from by omega) hU)).trans h.2.2.2.2.1, (hb.cell (Nat.lt_of_lt_of_le (show b2 < wr.heap.size from by omega) hU)).trans h.2.2.2.2.2⟩
      have HKeep := Lib.hid hkeep
      clear hkeep
      go_region_held3 (fun w' => w'.cell? ⟨b, off + k * 3, none⟩ = some (.int .i64 ks[k].var) ∧ w'.cell? ⟨b, off + k * 3 + 1, none⟩ = some (.int .i64 ks[k].ty.d) ∧ w'.cell? ⟨b, off + k * 3 + 2, none⟩ = some (.int .i64 ks[k].ty.i) ∧ w'.cell? ⟨b2, off2 + k * 3, none⟩ = some (.int .i64 ks[k].var) ∧ w'.cell? ⟨b2, off2 + k * 3 + 1, none⟩ = some (.int .i64 ks[k].ty.d) ∧ w'.cell? ⟨b2, off2 + k * 3 + 2, none⟩ = some (.int .i64 ks[k].ty.i)) (first | assumption | (exact ⟨c0, c1, c2, d0, d1, d2⟩) | (exact HKeep.out wr.drew w' ⟨c0, c1, c2, d0, d1, d2⟩ hB' (Nat.le_refl _))) (first | (go_at_call 105; ((with_reducible refine (eqVarType_any ks[k] _ _ _ G G2 HV.out.drew HV2.out.drew (Under.drew (HG.out.mono hB.size)) (Under.drew (HG2.out.mono hB.size))).mono ?_); rintro e w' ⟨rfl, hB'⟩)))
      have hB3 := hB.drew.trans (hB'.mono hB.size)
      go_wp2
      go_roundw
      case rel => exact ⟨k + 1, by omega, by go_num, hB3⟩
      case measure => simp [intOf]; omega
    · go_wp2
      go_ret
      exact ⟨rfl, hB⟩
end Go.Proofs.Ytbffkgfhcmigaaa

namespace Go.Proofs.Ytbffkgfhcmigaaa
open Go.RowKit

set_option maxRecDepth 100000 in
set_option maxHeartbeats 1600000 in
theorem heldVarTypeS_any (xs : List Vt) (w : World) (v : Value) (F : List Nat) (k0 : Int) (h0 : 0 ≤ k0) (hk : k0 + (sumBy cntVt xs : Nat) ≤ 1099511627776) (hx : Arr w (VtR w) (mkS mkVt cntVt k0 xs) v F) (hf : Under w.heap.size F) :
    Calls Try.prog 50 #[v, .int .i64 k0] w fun e w' => e = .returned (.int .i64 (k0 + (sumBy cntVt xs : Nat))) ∧ Below w.heap.size w w' := by
  obtain ⟨A, cap, rfl, hc1, hc2⟩ := hx.form
  rw [mkS_length] at hx hc1
  rw [mkS_length]
  have HX := Lib.hid hx
  have HF := Lib.hid hf
  have HK := Lib.hid hk

  clear hx hf hk
  go_enter Try.func50, Try.ntmps50
  go_wp2
  go_loopw [1, 5] (fun kv iv wr => ∃ i : Nat, ∃ m : Int, i ≤ xs.length ∧ iv = .int .i64 i ∧ kv = .int .i64 m ∧ 0 ≤ m ∧ Hid (m = k0 + (sumBy cntVt (xs.take i) : Nat)) ∧ Below w.heap.size w wr) (fun _ iv _ => xs.length - (intOf iv).toNat)
  case atStart => exact ⟨0, k0, Nat.zero_le _, rfl, rfl, h0, (by simp [Hid, sumBy]), Below.refl _ _⟩
  case round =>
    obtain ⟨i, m, hi, rfl, rfl, hm0, HM, hB⟩ := hrel
    by_cases hlt : i < xs.length
    · have g1 : (0 : Int) ≤ (i : Int) := by omega
      have g2 : (i : Int) < (xs.length : Int) := by omega
      obtain ⟨b, off, c, F2, rfl, hb, hc, hr, hG⟩ := HX.out.get ((fun w => VtR_len (w := w)) _) (i := i) (by rw [mkS_length]; exact hlt)
      have hge : (mkS mkVt cntVt k0 xs)[i]'(by rw [mkS_length]; exact hlt) = mkVt m xs[i] := by
        have h := mkS_get (mk := mkVt) (cnt := cntVt) (k := k0) hlt
        rw [← HM.out, List.getElem?_eq_getElem (by rw [mkS_length]; exact hlt)] at h
        exact Option.some.inj h
      rw [hge] at hr
      clear hge

      have hbl := HF.out b hb
      have hc := hc.same (hB.block b hbl)
      have hu2 := HF.out.sub hG
      clear hG hb
      have hbw := Nat.lt_of_lt_of_le hbl hB.size
      have hsum : m + (cntVt xs[i] : Nat) ≤ 1099511627776 := by
        have h1 := HM.out
        have h2 := HK.out
        have h3 := sumBy_take_le cntVt xs (i + 1)
        rw [sumBy_take_succ cntVt xs i hlt] at h3
        omega
      unfold mkVt at hr
      obtain ⟨rfl, rfl⟩ := hr
      have hcd := cntVt_def xs[i]
      rw [hcd] at hsum
      have x0 : wr.cell? ⟨b, off + i * 3, none⟩ = some (.int .i64 (m)) := hc 0 _ rfl
      have x1 : wr.cell? ⟨b, off + i * 3 + 1, none⟩ = some (.int .i64 (m + 1)) := hc 1 _ rfl
      have x2 : wr.cell? ⟨b, off + i * 3 + 2, none⟩ = some (.int .i64 (m + 1 + 1)) := hc 2 _ rfl
      clear hc
      have HCD := Lib.hid hcd
      clear hcd hu2
      have HM2 : Hid (m + 1 + 1 + 1 = k0 + (sumBy cntVt (xs.take (i + 1)) : Nat)) := by
        have h1 := HM.out
        have h2 := HCD.out
        unfold Hid
        rw [sumBy_take_succ cntVt xs i hlt]
        omega
      go_wp2
      go_roundw
      case rel => exact ⟨i + 1, m + 1 + 1 + 1, by omega, by go_num, rfl, by omega, HM2, hB⟩
      case measure => (simp [intOf] <;> omega)
    · have hf : Hid (m = k0 + (sumBy cntVt xs : Nat)) := by
        have h := HM.out
        rwa [List.take_of_length_le (by omega)] at h
      go_wp2
      go_ret
      exact ⟨ret_int hf.out, hB⟩
end Go.Proofs.Ytbffkgfhcmigaaa

namespace Go.Proofs.Ytbffkgfhcmigaaa
open Go.RowKit

theorem cntsVt_len (xs : List Vt) : sumBy cntVt xs = 3 * xs.length := by
  induction xs with
  | nil => rfl
  | cons x l ih => rw [sumBy, ih, cntVt_def, List.length_cons]; omega
theorem patVars_bound (xs : List Dt) (t : Ty) (p : P) : sumBy cntVt (patternVarsL xs t p) ≤ 16777216 := by
  rw [cntsVt_len]
  unfold patternVarsL
  split
  · rename_i h
    have h1 := varsN_len xs 10 t p
    have h2 := (patValid_split h).2.2.2
    omega
  · simp
end Go.Proofs.Ytbffkgfhcmigaaa
