/-
  Lemmas and contracts of functions: Contracts of the program's CompareValues, by cmp.Or and slices.CompareFunc. Conditions: none.
-/
import Derived.Test.YtilndhmegaccmaaKAE

set_option linter.unusedVariables false
set_option linter.unusedSimpArgs false

namespace Go.Proofs.Ytilndhmegaccmaa
open Go.RowKit

def firstNZ : List Int → Int
  | [] => 0
  | x :: xs => if x = 0 then firstNZ xs else x

set_option maxHeartbeats 400000 in
theorem cmp_Or (xs : List Int) (b off cap : Nat) (w : World) (hc : CellsAt w b off (xs.map (Value.int .i64))) (hl : xs.length ≤ 1000) :
    Calls Try.prog 76 #[.slice (some ⟨b, off, none⟩) xs.length cap] w fun e w' => e = .returned (.int .i64 (firstNZ xs)) ∧ w = w' := by
  have HC := Lib.hid hc
  clear hc
  go_enter Try.func76, Try.ntmps76
  go_wp2
  go_loop [8] (fun i => ∃ k : Nat, k ≤ xs.length ∧ i = .int .i64 k ∧ Hid (firstNZ xs = firstNZ (xs.drop k))) (fun i => xs.length - (intOf i).toNat)
  case atStart => exact ⟨0, Nat.zero_le _, rfl, rfl⟩
  case round =>
    obtain ⟨k, hk, rfl, HT⟩ := hrel
    by_cases hlt : k < xs.length
    · have c0 : w.cell? ⟨b, off + k, none⟩ = some (.int .i64 xs[k]) := HC.out k _ (by rw [List.getElem?_map, List.getElem?_eq_getElem hlt]; rfl)
      have hd : firstNZ (xs.drop k) = if xs[k] = 0 then firstNZ (xs.drop (k + 1)) else xs[k] := by rw [List.drop_eq_getElem_cons hlt, firstNZ]
      by_cases hz : xs[k] = 0
      · rw [if_pos hz] at hd
        have hT2 : Hid (firstNZ xs = firstNZ (xs.drop (k + 1))) := HT.out.trans hd
        rw [hz] at c0
        clear hd hz
        go_wp2
        go_round
        case rel => exact ⟨k + 1, by omega, by go_num, hT2⟩
        case measure => simp [intOf]; omega
      · rw [if_neg hz] at hd
        have hq2 : (xs[k] != 0) = true := by simpa using hz
        have hf : Hid (firstNZ xs = xs[k]) := HT.out.trans hd
        clear hd hz
        go_wp2
        go_ret
        exact ⟨ret_int hf.out.symm, rfl⟩
    · have hf : Hid (firstNZ xs = 0) := by
        have := HT.out
        rw [List.drop_of_length_le (by omega)] at this
        exact this
      go_wp2
      go_ret
      exact ⟨ret_int hf.out.symm, rfl⟩

def CmpImpl (a : V) : Prop := ∀ (b : V) (w : World) (cs ds : List Value) (F G : List Nat), VR w a cs F → VR w b ds G → Under w.heap.size F → Under w.heap.size G →
  Calls Try.prog 31 #[.agg cs.toArray, .agg ds.toArray] w fun e w' => e = .returned (.int .i64 (V.cmp a b)) ∧ Below w.heap.size w w'

set_option maxRecDepth 100000 in
set_option maxHeartbeats 1600000 in
theorem CompareFunc_of (ks : List V) (ih : ∀ k ∈ ks, CmpImpl k) (ks' : List V) (w : World) (x y : Value) (F G : List Nat) (hx : Arr w (VR w) ks x F) (hy : Arr w (VR w) ks' y G) (hF : Under w.heap.size F) (hG : Under w.heap.size G) :
    Calls Try.prog 78 #[x, y, .func (.func 31) #[] #[]] w fun e w' => e = .returned (.int .i64 (V.cmps ks ks')) ∧ Below w.heap.size w w' := by
  have HX := Lib.hid hx
  have HY := Lib.hid hy
  obtain ⟨A, cap, rfl, hc1, hc2⟩ := hx.form
  obtain ⟨A', cap', rfl, hc3, hc4⟩ := hy.form
  clear hx hy
  have IH := Lib.hid ih
  clear ih
  have HF := Lib.hid hF
  have HG := Lib.hid hG
  clear hF hG
  go_enter Try.func78, Try.ntmps78
  go_wp2
  go_loopw [13] (fun i wr => ∃ k : Nat, k ≤ ks.length ∧ k ≤ ks'.length ∧ i = .int .i64 k ∧ Hid (V.cmps ks ks' = V.cmps (ks.drop k) (ks'.drop k)) ∧ Below w.heap.size w wr) (fun i _ => ks.length - (intOf i).toNat)
  case atStart => exact ⟨0, Nat.zero_le _, Nat.zero_le _, rfl, rfl, Below.refl _ _⟩
  case round =>
    obtain ⟨k, hk, hk', rfl, HT, hB⟩ := hrel
    by_cases hlt : k < ks.length
    · by_cases hlt' : k < ks'.length
      · have hd := V.cmps_drop ks ks' k hlt hlt'
        have hrange := V.cmp_range ks[k] ks'[k]
        obtain ⟨b, off, cs, F1, rfl, hb, hcs, hv, hF1⟩ := HX.out.get VR_len hlt
        obtain ⟨b', off', ds, G1, rfl, hb', hds, hv', hG1⟩ := HY.out.get VR_len hlt'
        have hv1 := hv.below hB (HF.out.sub hF1)
        have hv2 := hv'.below hB (HG.out.sub hG1)
        have hbl := HF.out b hb
        have hbl' := HG.out b' hb'
        have hcs1 := hcs.same (hB.block b hbl)
        have hds1 := hds.same (hB.block b' hbl')
        obtain ⟨kv, rfl, hka⟩ := (VR_iff _ _ _).1 hv
        obtain ⟨kv', rfl, hka'⟩ := (VR_iff _ _ _).1 hv'
        obtain ⟨A1, cap1, rfl, -, -⟩ := hka.form
        obtain ⟨A2, cap2, rfl, -, -⟩ := hka'.form
        have c0 := hcs1 0 _ rfl
        have c1 := hcs1 1 _ rfl
        have c2 := hcs1 2 _ rfl
        have d0 := hds1 0 _ rfl
        have d1 := hds1 1 _ rfl
        have d2 := hds1 2 _ rfl
        simp only [Nat.add_zero] at c0 d0
        clear hcs hcs1 hv hds hds1 hv' hka hka'
        have HV := Lib.hid hv1
        have HV2 := Lib.hid hv2
        have HF1 := Lib.hid (HF.out.sub hF1)
        have HG1 := Lib.hid (HG.out.sub hG1)
        clear hv1 hv2 hF1 hG1
        have hblw := Nat.lt_of_lt_of_le hbl hB.size
        have hblw' := Nat.lt_of_lt_of_le hbl' hB.size
        generalize hc : V.cmp ks[k] ks'[k] = q at *
        have HC := Lib.hid hc
        clear hc
        have HD := Lib.hid hd
        clear hd
        go_wp2_with fail
        obtain ⟨W2, hW2⟩ : ∃ W2, W2 = (wr.alloc (.cells #[.int .i64 ks[k].c, .int .i64 ks[k].n, .slice A1 ks[k].ks.length cap1] 53)).alloc (.cells #[.int .i64 ks'[k].c, .int .i64 ks'[k].n, .slice A2 ks'[k].ks.length cap2] 53) := ⟨_, rfl⟩
        have hb2 : Below wr.heap.size wr W2 := by rw [hW2]; exact ((Below.refl _ _).alloc (Nat.le_refl _) _).alloc (by simp) _
        rw [← hW2]
        clear hW2
        have hB2 := hB.trans (hb2.mono hB.size)
        refine (IH.out _ (List.getElem_mem hlt) ks'[k] W2 _ _ F1 G1 (HV.out.below hb2 (HF1.out.mono hB.size)) (HV2.out.below hb2 (HG1.out.mono hB.size)) (HF1.out.mono hB2.size) (HG1.out.mono hB2.size)).mono ?_
        rintro e w' ⟨rfl, hB'⟩
        have hB3 := hB2.trans (hB'.mono hB2.size)
        rw [HC.out]
        by_cases hq : q = 0
        · subst hq
          have hT2 : Hid (V.cmps ks ks' = V.cmps (ks.drop (k + 1)) (ks'.drop (k + 1))) := by have hd := HD.out; rw [if_pos rfl] at hd; exact HT.out.trans hd
          go_wp2
          go_roundw
          case rel => exact ⟨k + 1, by omega, by omega, by go_num, hT2, hB3⟩
          case measure => simp [intOf]; omega
        · have hq2 : (q != 0) = true := by simpa using hq
          have hf2 : Hid (V.cmps ks ks' = q) := by have hd := HD.out; rw [if_neg hq] at hd; exact HT.out.trans hd
          clear hq
          go_wp2
          go_ret
          exact ⟨ret_int hf2.out.symm, hB3⟩
      · have hf2 : Hid (V.cmps ks ks' = 1) := by
          rw [HT.out, V.cmps_end ks ks' k hk hk' (.inr (by omega))]; exact lessI_gt (by omega)
        obtain ⟨b, off, cs, F1, rfl, hb, hcs, hv, hF1⟩ := HX.out.get VR_len hlt
        have hcs1 := hcs.same (hB.block b (HF.out b hb))
        have hblw := Nat.lt_of_lt_of_le (HF.out b hb) hB.size
        obtain ⟨kv, rfl, hka⟩ := (VR_iff _ _ _).1 hv
        obtain ⟨A1, cap1, rfl, -, -⟩ := hka.form
        have c0 := hcs1 0 _ rfl
        have c1 := hcs1 1 _ rfl
        have c2 := hcs1 2 _ rfl
        simp only [Nat.add_zero] at c0
        clear hcs hcs1 hv hF1 hka hb
        go_wp2
        go_ret
        exact ⟨ret_int hf2.out.symm, hB.alloc hB.size _⟩
    · have hcc := V.cmps_end ks ks' k hk hk' (.inl (by omega))
      by_cases hll : ks.length < ks'.length
      · have hf2 : Hid (V.cmps ks ks' = -1) := by rw [HT.out, hcc]; exact lessI_lt (by omega)
        clear hcc
        go_wp2
        go_ret
        exact ⟨ret_int hf2.out.symm, hB⟩
      · have hf2 : Hid (V.cmps ks ks' = 0) := by rw [HT.out, hcc, show ks'.length = ks.length by omega]; exact lessI_eq _
        clear hcc
        go_wp2
        go_ret
        exact ⟨ret_int hf2.out.symm, hB⟩

theorem V.cmp_or (c n c' n' : Int) (ks ks' : List V) : firstNZ [lessI c c', lessI n n', V.cmps ks ks'] = V.cmp ⟨c, n, ks⟩ ⟨c', n', ks'⟩ := by
  simp only [firstNZ, V.cmp]
  have h : ∀ a b : Int, lessI a b = 0 ↔ a = b := fun a b => by
    unfold lessI
    split
    · constructor <;> intro h <;> omega
    · split
      · constructor <;> intro h <;> omega
      · constructor <;> intro h <;> omega
  by_cases h1 : c = c'
  · rw [if_pos ((h _ _).2 h1), if_pos h1]
    by_cases h2 : n = n'
    · rw [if_pos ((h _ _).2 h2), if_pos h2]
      split <;> simp_all
    · rw [if_neg (fun e => h2 ((h _ _).1 e)), if_neg h2]
  · rw [if_neg (fun e => h1 ((h _ _).1 e)), if_neg h1]

set_option maxRecDepth 100000 in
set_option maxHeartbeats 1600000 in
theorem impl_CompareValues_all : ∀ a, CmpImpl a := V.ind fun c n ks ih b w cs ds F G hv hv' hF hG => by
  obtain ⟨c', n', ks'⟩ := b
  obtain ⟨kv, rfl, hk⟩ := (VR_iff _ _ _).1 hv
  obtain ⟨kv', rfl, hk'⟩ := (VR_iff _ _ _).1 hv'
  have IH := Lib.hid ih
  clear ih hv hv'
  have HX := Lib.hid hk
  have HY := Lib.hid hk'
  obtain ⟨A, cap, rfl, hc1, hc2⟩ := hk.form
  obtain ⟨A', cap', rfl, hc3, hc4⟩ := hk'.form
  clear hk hk'
  have HF := Lib.hid hF
  have HG := Lib.hid hG
  clear hF hG
  go_enter Try.func31, Try.ntmps31
  go_wp2_with fail
  obtain ⟨W2, hW2⟩ : ∃ W2, W2 = (w.alloc (.cells #[.int .i64 c, .int .i64 n, .slice A ks.length cap] 53)).alloc (.cells #[.int .i64 c', .int .i64 n', .slice A' ks'.length cap'] 53) := ⟨_, rfl⟩
  have hB2 : Below w.heap.size w W2 := by rw [hW2]; exact ((Below.refl _ _).alloc (Nat.le_refl _) _).alloc (by simp) _
  have hz2 : w.heap.size + 2 ≤ W2.heap.size := by rw [hW2]; simp
  have k1 : Blk W2 w.heap.size 53 #[.int .i64 c, .int .i64 n, .slice A ks.length cap] := by rw [hW2]; exact (Blk.new w _ _).same (Below.heap_alloc _ _ _ (by simp))
  have k2 : Blk W2 (w.heap.size + 1) 53 #[.int .i64 c', .int .i64 n', .slice A' ks'.length cap'] := by rw [hW2]; have := Blk.new (w.alloc (.cells #[.int .i64 c, .int .i64 n, .slice A ks.length cap] 53)) 53 #[.int .i64 c', .int .i64 n', .slice A' ks'.length cap']; simpa using this
  rw [← hW2]
  clear hW2
  have x0 : W2.cell? ⟨w.heap.size, 0, none⟩ = some (.int .i64 c) := (k1.cell 0).trans (by simp)
  have x1 : W2.cell? ⟨w.heap.size, 1, none⟩ = some (.int .i64 n) := (k1.cell 1).trans (by simp)
  have x2 : W2.cell? ⟨w.heap.size, 2, none⟩ = some (.slice A ks.length cap) := (k1.cell 2).trans (by simp)
  have y0 : W2.cell? ⟨w.heap.size + 1, 0, none⟩ = some (.int .i64 c') := (k2.cell 0).trans (by simp)
  have y1 : W2.cell? ⟨w.heap.size + 1, 1, none⟩ = some (.int .i64 n') := (k2.cell 1).trans (by simp)
  have y2 : W2.cell? ⟨w.heap.size + 1, 2, none⟩ = some (.slice A' ks'.length cap') := (k2.cell 2).trans (by simp)
  clear k1 k2
  have hBd := hB2.drew
  have HX2 := Lib.hid (ArrV.below HX.out hBd HF.out)
  have HY2 := Lib.hid (ArrV.below HY.out hBd HG.out)
  have hkeep : ∀ U U' : World, (U.cell? ⟨w.heap.size, 0, none⟩ = some (.int .i64 c) ∧ U.cell? ⟨w.heap.size, 1, none⟩ = some (.int .i64 n) ∧ U.cell? ⟨w.heap.size, 2, none⟩ = some (.slice A ks.length cap) ∧ U.cell? ⟨w.heap.size + 1, 0, none⟩ = some (.int .i64 c') ∧ U.cell? ⟨w.heap.size + 1, 1, none⟩ = some (.int .i64 n') ∧ U.cell? ⟨w.heap.size + 1, 2, none⟩ = some (.slice A' ks'.length cap')) → Below U.heap.size U U' → w.heap.size + 2 ≤ U.heap.size → (U'.cell? ⟨w.heap.size, 0, none⟩ = some (.int .i64 c) ∧ U'.cell? ⟨w.heap.size, 1, none⟩ = some (.int .i64 n) ∧ U'.cell? ⟨w.heap.size, 2, none⟩ = some (.slice A ks.length cap) ∧ U'.cell? ⟨w.heap.size + 1, 0, none⟩ = some (.int .i64 c') ∧ U'.cell? ⟨w.heap.size + 1, 1, none⟩ = some (.int .i64 n') ∧ U'.cell? ⟨w.heap.size + 1, 2, none⟩ = some (.slice A' ks'.length cap')) := fun U U' h hb hU => ⟨(hb.cell (Nat.lt_of_lt_of_le (show _ < w.heap.size + 2 from by simp) hU)).trans h.1, (hb.cell (Nat.lt_of_lt_of_le (show _ < w.heap.size + 2 from by simp) hU)).trans h.2.1, (hb.cell (Nat.lt_of_lt_of_le (show _ < w.heap.size + 2 from by simp) hU)).trans h.2.2.1, (hb.cell (Nat.lt_of_lt_of_le (show _ < w.heap.size + 2 from by simp) hU)).trans h.2.2.2.1, (hb.cell (Nat.lt_of_lt_of_le (show _ < w.heap.size + 2 from by simp) hU)).trans h.2.2.2.2.1, (hb.cell (Nat.lt_of_lt_of_le (show _ < w.heap.size + 2 from by simp) hU)).trans h.2.2.2.2.2⟩
  have HKeep := Lib.hid hkeep
  clear hkeep
  go_region_held3 (fun w' => w'.cell? ⟨w.heap.size, 0, none⟩ = some (.int .i64 c) ∧ w'.cell? ⟨w.heap.size, 1, none⟩ = some (.int .i64 n) ∧ w'.cell? ⟨w.heap.size, 2, none⟩ = some (.slice A ks.length cap) ∧ w'.cell? ⟨w.heap.size + 1, 0, none⟩ = some (.int .i64 c') ∧ w'.cell? ⟨w.heap.size + 1, 1, none⟩ = some (.int .i64 n') ∧ w'.cell? ⟨w.heap.size + 1, 2, none⟩ = some (.slice A' ks'.length cap')) (first | assumption | (exact ⟨x0, x1, x2, y0, y1, y2⟩) | (exact HKeep.out W2.drew W3 ⟨x0, x1, x2, y0, y1, y2⟩ hb3 hz2) | (exact HKeep.out _ _ (by assumption) ((Below.refl _ _).alloc (Nat.le_refl _) _) hz3)) (first | (go_at_call 77; ((with_reducible refine (cmp_Compare c c' _).mono ?_); rintro e w1 ⟨rfl, rfl⟩)) | (go_at_call 77; ((with_reducible refine (cmp_Compare n n' _).mono ?_); rintro e w1 ⟨rfl, rfl⟩)) | (go_at_call 78; ((with_reducible refine (CompareFunc_of ks IH.out ks' _ _ _ F G HX2.out HY2.out (HF.out.mono hBd.size) (HG.out.mono hBd.size)).mono ?_); rintro e W3 ⟨rfl, hb3⟩; have hz3 : w.heap.size + 2 ≤ W3.heap.size := Nat.le_trans hz2 hb3.size)) | (go_at_call 76; (refine (cmp_Or [lessI c c', lessI n n', V.cmps ks ks'] _ 0 _ _ ?_ (by simp)).mono ?_; (exact fun j u hj => by rw [(Blk.new W3 _ _).cell]; simpa using hj); rintro e w5 ⟨rfl, rfl⟩)))
  have hB5 := hB2.drew.trans (hb3.mono hB2.size)
  have hfin := Lib.hid (V.cmp_or c n c' n' ks ks')
  go_wp2
  go_ret
  exact ⟨ret_int hfin.out, hB5.alloc hB5.size _⟩
theorem impl_CompareValues (a b : V) (w : World) (cs ds : List Value) (F G : List Nat) (hx : VR w a cs F) (hy : VR w b ds G) (hF : Under w.heap.size F) (hG : Under w.heap.size G) :
    Calls Try.prog 31 #[.agg cs.toArray, .agg ds.toArray] w fun e w' => e = .returned (.int .i64 (V.cmp a b)) ∧ Below w.heap.size w w' := impl_CompareValues_all a b w cs ds F G hx hy hF hG
end Go.Proofs.Ytilndhmegaccmaa
