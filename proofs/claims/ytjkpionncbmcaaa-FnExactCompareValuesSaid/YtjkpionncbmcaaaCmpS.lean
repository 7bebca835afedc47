/-
  Contracts of the two functions CompareValues and of what they call. Conditions: none.
-/
import Derived.Test.YtjkpionncbmcaaaV
import Derived.Test.YtjkpionncbmcaaaChecked
import Derived.Deep.RegionHeld3
import Derived.Deep.RegionWith
import Derived.BigQuiet
namespace Go.Proofs.Ytjkpionncbmcaaa
open Go.RowKit

def lessI (a b : Int) : Int := if a < b then -1 else if b < a then 1 else 0
theorem lessI_lt {a b : Int} (h : a < b) : lessI a b = -1 := if_pos h
theorem lessI_gt {a b : Int} (h : b < a) : lessI a b = 1 := by unfold lessI; rw [if_neg (by omega), if_pos h]
theorem lessI_eq (a : Int) : lessI a a = 0 := by unfold lessI; simp
mutual
def V.cmp : V → V → Int
  | ⟨c, n, ks⟩, ⟨c', n', ks'⟩ => if c = c' then (if n = n' then V.cmps ks ks' else lessI n n') else lessI c c'
def V.cmps : List V → List V → Int
  | [], [] => 0
  | [], _ :: _ => -1
  | _ :: _, [] => 1
  | x :: xs, y :: ys => if V.cmp x y = 0 then V.cmps xs ys else V.cmp x y
end
theorem lessI_range (a b : Int) : -1 ≤ lessI a b ∧ lessI a b ≤ 1 := by
  unfold lessI
  split
  · omega
  · split <;> omega
theorem V.cmps_range_of (ks : List V) (h : ∀ k ∈ ks, ∀ b, -1 ≤ V.cmp k b ∧ V.cmp k b ≤ 1) : ∀ ks', -1 ≤ V.cmps ks ks' ∧ V.cmps ks ks' ≤ 1 := by
  induction ks with
  | nil => intro ks'; cases ks' <;> simp [V.cmps]
  | cons x xs ih =>
    intro ks'
    cases ks' with
    | nil => simp [V.cmps]
    | cons y ys =>
      simp only [V.cmps]
      split
      · exact ih (fun k hk => h k (by simp [hk])) ys
      · exact h x (by simp) y
theorem V.cmp_range : ∀ a b : V, -1 ≤ V.cmp a b ∧ V.cmp a b ≤ 1 := V.ind fun c n ks ih b => by
  obtain ⟨c', n', ks'⟩ := b
  simp only [V.cmp]
  split
  · split
    · exact V.cmps_range_of ks ih ks'
    · exact lessI_range _ _
  · exact lessI_range _ _
theorem V.cmps_drop (ks ks' : List V) (k : Nat) (h : k < ks.length) (h' : k < ks'.length) : V.cmps (ks.drop k) (ks'.drop k) = if V.cmp ks[k] ks'[k] = 0 then V.cmps (ks.drop (k + 1)) (ks'.drop (k + 1)) else V.cmp ks[k] ks'[k] := by
  rw [List.drop_eq_getElem_cons h, List.drop_eq_getElem_cons h', V.cmps]
theorem V.cmps_end (ks ks' : List V) (k : Nat) (h : k ≤ ks.length) (h' : k ≤ ks'.length) (he : k = ks.length ∨ k = ks'.length) : V.cmps (ks.drop k) (ks'.drop k) = lessI ks.length ks'.length := by
  rcases he with rfl | rfl
  · rw [List.drop_length]
    rcases Nat.lt_or_ge ks.length ks'.length with hl | hl
    · rw [List.drop_eq_getElem_cons hl, V.cmps, lessI_lt (by omega)]
    · have : ks'.length = ks.length := by omega
      rw [List.drop_of_length_le hl, V.cmps, this, lessI_eq]
  · rw [List.drop_length]
    rcases Nat.lt_or_ge ks'.length ks.length with hl | hl
    · rw [List.drop_eq_getElem_cons hl, V.cmps, lessI_gt (by omega)]
    · have : ks.length = ks'.length := by omega
      rw [List.drop_of_length_le hl, V.cmps, this, lessI_eq]

set_option maxHeartbeats 400000 in
theorem spec_l2Less (a b : Int) (w : World) : Calls Try.prog 42 #[.int .i64 a, .int .i64 b] w fun e w' => e = .returned (.int .i64 (lessI a b)) ∧ w = w' := by
  by_cases h : a < b
  · have hf := Lib.hid (lessI_lt h)
    go_enter Try.func42, Try.ntmps42
    go_wp2
    go_ret
    exact ⟨ret_int hf.out.symm, rfl⟩
  · by_cases h2 : b < a
    · have hf := Lib.hid (lessI_gt h2)
      go_enter Try.func42, Try.ntmps42
      go_wp2
      go_ret
      exact ⟨ret_int hf.out.symm, rfl⟩
    · obtain rfl : a = b := by omega
      have hf := Lib.hid (lessI_eq a)
      clear h h2
      have h : ¬ a < a := by omega
      go_enter Try.func42, Try.ntmps42
      go_wp2
      go_ret
      exact ⟨ret_int hf.out.symm, rfl⟩

set_option maxHeartbeats 400000 in
theorem cmp_isNaN (a : Int) (w : World) : Calls Try.prog 51 #[.int .i64 a] w fun e w' => e = .returned (.bool false) ∧ w = w' := by
  have h : (a != a) = false := by simp
  go_enter Try.func51, Try.ntmps51
  go_wp2
  go_ret
  exact ⟨rfl, rfl⟩

set_option maxHeartbeats 400000 in
theorem cmp_Compare (a b : Int) (w : World) : Calls Try.prog 44 #[.int .i64 a, .int .i64 b] w fun e w' => e = .returned (.int .i64 (lessI a b)) ∧ w = w' := by
  by_cases h : a < b
  · have hf := Lib.hid (lessI_lt h)
    go_enter Try.func44, Try.ntmps44
    go_wp2_with (go_at_call 51; refine (cmp_isNaN _ _).mono ?_; rintro e w' ⟨rfl, rfl⟩)
    go_ret
    exact ⟨ret_int hf.out.symm, rfl⟩
  · by_cases h2 : b < a
    · have hf := Lib.hid (lessI_gt h2)
      go_enter Try.func44, Try.ntmps44
      go_wp2_with (go_at_call 51; refine (cmp_isNaN _ _).mono ?_; rintro e w' ⟨rfl, rfl⟩)
      go_ret
      exact ⟨ret_int hf.out.symm, rfl⟩
    · obtain rfl : a = b := by omega
      have hf := Lib.hid (lessI_eq a)
      clear h h2
      have h : ¬ a < a := by omega
      go_enter Try.func44, Try.ntmps44
      go_wp2_with (go_at_call 51; refine (cmp_isNaN _ _).mono ?_; rintro e w' ⟨rfl, rfl⟩)
      go_ret
      exact ⟨ret_int hf.out.symm, rfl⟩

def CmpSpec (a : V) : Prop := ∀ (b : V) (w : World) (cs ds : List Value) (F G : List Nat), VR w a cs F → VR w b ds G → Under w.heap.size F → Under w.heap.size G →
  Calls Try.prog 24 #[.agg cs.toArray, .agg ds.toArray] w fun e w' => e = .returned (.int .i64 (V.cmp a b)) ∧ Below w.heap.size w w'

set_option maxRecDepth 100000 in
set_option maxHeartbeats 1600000 in
theorem spec_CompareValues_all : ∀ a, CmpSpec a := V.ind fun c n ks ih b w cs ds F G hv hv' hF hG => by
  obtain ⟨c', n', ks'⟩ := b
  obtain ⟨kv, rfl, hk⟩ := (VR_iff _ _ _).1 hv
  obtain ⟨kv', rfl, hk'⟩ := (VR_iff _ _ _).1 hv'
  have IH := Lib.hid ih
  clear ih hv hv'
  have HX := Lib.hid hk
  have HY := Lib.hid hk'
  obtain ⟨A, cap, rfl, hc1, hc2⟩ := hk.form
  obtain ⟨A', cap', rfl, hc3, hc4⟩ := hk'.form
  clear hk hk'
  have HF := Lib.hid hF
  have HG := Lib.hid hG
  clear hF hG
  by_cases e0 : c = c'
  · subst e0
    have t0 : (c != c) = false := by simp
    by_cases e1 : n = n'
    · subst e1
      have t1 : (n != n) = false := by simp
      have hf : Hid (V.cmp ⟨c, n, ks⟩ ⟨c, n, ks'⟩ = V.cmps ks ks') := by simp [Hid, V.cmp]
      go_enter Try.func24, Try.ntmps24
      go_wp2
      obtain ⟨W2, hW2⟩ : ∃ W2, W2 = (w.alloc (.cells #[.int .i64 c, .int .i64 n, .slice A ks.length cap] 31)).alloc (.cells #[.int .i64 c, .int .i64 n, .slice A' ks'.length cap'] 31) := ⟨_, rfl⟩
      have hB2 : Below w.heap.size w W2 := by rw [hW2]; exact ((Below.refl _ _).alloc (Nat.le_refl _) _).alloc (by simp) _
      have hz2 : W2.heap.size = w.heap.size + 2 := by rw [hW2]; simp
      have k1 : Blk W2 w.heap.size 31 #[.int .i64 c, .int .i64 n, .slice A ks.length cap] := by rw [hW2]; exact (Blk.new w _ _).same (Below.heap_alloc _ _ _ (by simp))
      have k2 : Blk W2 (w.heap.size + 1) 31 #[.int .i64 c, .int .i64 n, .slice A' ks'.length cap'] := by rw [hW2]; have := Blk.new (w.alloc (.cells #[.int .i64 c, .int .i64 n, .slice A ks.length cap] 31)) 31 #[.int .i64 c, .int .i64 n, .slice A' ks'.length cap']; simpa using this
      rw [← hW2]
      clear hW2
      have K1 := Lib.hid k1
      have K2 := Lib.hid k2
      have HZ2 := Lib.hid hz2
      clear k1 k2 hz2
      go_loopw [5] (fun i wr => ∃ k : Nat, k ≤ ks.length ∧ k ≤ ks'.length ∧ i = .int .i64 k ∧ Hid (V.cmps ks ks' = V.cmps (ks.drop k) (ks'.drop k)) ∧ Below W2.heap.size W2 wr) (fun i _ => ks.length - (intOf i).toNat)
      case atStart => exact ⟨0, Nat.zero_le _, Nat.zero_le _, rfl, rfl, Below.refl _ _⟩
      case round =>
        obtain ⟨k, hk, hk', rfl, HT, hB1⟩ := hrel
        have hB := hB2.trans (hB1.mono hB2.size)
        have hszr : w.heap.size + 2 ≤ wr.heap.size := by have := hB1.size; have := HZ2.out; omega
        have x2 : wr.cell? ⟨w.heap.size, 2, none⟩ = some (.slice A ks.length cap) := ((K1.out.same (hB1.block _ (by have := HZ2.out; omega))).cell 2).trans (by simp)
        have y2 : wr.cell? ⟨w.heap.size + 1, 2, none⟩ = some (.slice A' ks'.length cap') := ((K2.out.same (hB1.block _ (by have := HZ2.out; omega))).cell 2).trans (by simp)
        by_cases hlt : k < ks.length
        · by_cases hlt' : k < ks'.length
          · have hd := V.cmps_drop ks ks' k hlt hlt'
            have hrange := V.cmp_range ks[k] ks'[k]
            obtain ⟨b, off, cs, F1, rfl, hb, hcs, hv, hF1⟩ := HX.out.get VR_len hlt
            obtain ⟨b', off', ds, G1, rfl, hb', hds, hv', hG1⟩ := HY.out.get VR_len hlt'
            have hv1 := hv.below hB (HF.out.sub hF1)
            have hv2 := hv'.below hB (HG.out.sub hG1)
            have hbl := HF.out b hb
            have hbl' := HG.out b' hb'
            have hcs1 := hcs.same (hB.block b hbl)
            have hds1 := hds.same (hB.block b' hbl')
            obtain ⟨kv, rfl, hka⟩ := (VR_iff _ _ _).1 hv
            obtain ⟨kv', rfl, hka'⟩ := (VR_iff _ _ _).1 hv'
            obtain ⟨A1, cap1, rfl, -, -⟩ := hka.form
            obtain ⟨A2, cap2, rfl, -, -⟩ := hka'.form
            have c0 := hcs1 0 _ rfl
            have c1 := hcs1 1 _ rfl
            have c2 := hcs1 2 _ rfl
            have d0 := hds1 0 _ rfl
            have d1 := hds1 1 _ rfl
            have d2 := hds1 2 _ rfl
            simp only [Nat.add_zero] at c0 d0
            clear hcs hcs1 hv hds hds1 hv' hka hka'
            have HV := Lib.hid hv1
            have HV2 := Lib.hid hv2
            have HF1 := Lib.hid (HF.out.sub hF1)
            have HG1 := Lib.hid (HG.out.sub hG1)
            clear hv1 hv2 hF1 hG1
            generalize hc : V.cmp ks[k] ks'[k] = q at *
            by_cases hq : q = 0
            · subst hq
              have hT2 : Hid (V.cmps ks ks' = V.cmps (ks.drop (k + 1)) (ks'.drop (k + 1))) := by rw [if_pos rfl] at hd; exact HT.out.trans hd
              have HC := Lib.hid hc
              clear hd hc
              go_wp2_with fail
              have hkeep : ∀ U U' : World, (U.cell? ⟨w.heap.size, 2, none⟩ = some (.slice (some ⟨b, off, none⟩) ks.length cap) ∧ U.cell? ⟨w.heap.size + 1, 2, none⟩ = some (.slice (some ⟨b', off', none⟩) ks'.length cap') ∧ U.cell? ⟨b, off + k * 3, none⟩ = some (.int .i64 ks[k].c) ∧ U.cell? ⟨b, off + k * 3 + 1, none⟩ = some (.int .i64 ks[k].n) ∧ U.cell? ⟨b, off + k * 3 + 2, none⟩ = some (.slice A1 ks[k].ks.length cap1) ∧ U.cell? ⟨b', off' + k * 3, none⟩ = some (.int .i64 ks'[k].c) ∧ U.cell? ⟨b', off' + k * 3 + 1, none⟩ = some (.int .i64 ks'[k].n) ∧ U.cell? ⟨b', off' + k * 3 + 2, none⟩ = some (.slice A2 ks'[k].ks.length cap2)) → Below U.heap.size U U' → wr.heap.size ≤ U.heap.size → (U'.cell? ⟨w.heap.size, 2, none⟩ = some (.slice (some ⟨b, off, none⟩) ks.length cap) ∧ U'.cell? ⟨w.heap.size + 1, 2, none⟩ = some (.slice (some ⟨b', off', none⟩) ks'.length cap') ∧ U'.cell? ⟨b, off + k * 3, none⟩ = some (.int .i64 ks[k].c) ∧ U'.cell? ⟨b, off + k * 3 + 1, none⟩ = some (.int .i64 ks[k].n) ∧ U'.cell? ⟨b, off + k * 3 + 2, none⟩ = some (.slice A1 ks[k].ks.length cap1) ∧ U'.cell? ⟨b', off' + k * 3, none⟩ = some (.int .i64 ks'[k].c) ∧ U'.cell? ⟨b', off' + k * 3 + 1, none⟩ = some (.int .i64 ks'[k].n) ∧ U'.cell? ⟨b', off' + k * 3 + 2, none⟩ = some (.slice A2 ks'[k].ks.length cap2)) := fun U U' h hb hU => ⟨(hb.cell (Nat.lt_of_lt_of_le (show w.heap.size < wr.heap.size from by omega) hU)).trans h.1, (hb.cell (Nat.lt_of_lt_of_le (show w.heap.size + 1 < wr.heap.size from by omega) hU)).trans h.2.1, (hb.cell (Nat.lt_of_lt_of_le (show b < wr.heap.size from by omega) hU)).trans h.2.2.1, (hb.cell (Nat.lt_of_lt_of_le (show b < wr.heap.size from by omega) hU)).trans h.2.2.2.1, (hb.cell (Nat.lt_of_lt_of_le (show b < wr.heap.size from by omega) hU)).trans h.2.2.2.2.1, (hb.cell (Nat.lt_of_lt_of_le (show b' < wr.heap.size from by omega) hU)).trans h.2.2.2.2.2.1, (hb.cell (Nat.lt_of_lt_of_le (show b' < wr.heap.size from by omega) hU)).trans h.2.2.2.2.2.2.1, (hb.cell (Nat.lt_of_lt_of_le (show b' < wr.heap.size from by omega) hU)).trans h.2.2.2.2.2.2.2⟩
              have HKeep := Lib.hid hkeep
              clear hkeep
              go_region_held3 (fun w' => w'.cell? ⟨w.heap.size, 2, none⟩ = some (.slice (some ⟨b, off, none⟩) ks.length cap) ∧ w'.cell? ⟨w.heap.size + 1, 2, none⟩ = some (.slice (some ⟨b', off', none⟩) ks'.length cap') ∧ w'.cell? ⟨b, off + k * 3, none⟩ = some (.int .i64 ks[k].c) ∧ w'.cell? ⟨b, off + k * 3 + 1, none⟩ = some (.int .i64 ks[k].n) ∧ w'.cell? ⟨b, off + k * 3 + 2, none⟩ = some (.slice A1 ks[k].ks.length cap1) ∧ w'.cell? ⟨b', off' + k * 3, none⟩ = some (.int .i64 ks'[k].c) ∧ w'.cell? ⟨b', off' + k * 3 + 1, none⟩ = some (.int .i64 ks'[k].n) ∧ w'.cell? ⟨b', off' + k * 3 + 2, none⟩ = some (.slice A2 ks'[k].ks.length cap2)) (first | assumption | (exact ⟨x2, y2, c0, c1, c2, d0, d1, d2⟩) | (exact HKeep.out wr.drew w' ⟨x2, y2, c0, c1, c2, d0, d1, d2⟩ hB' (Nat.le_refl _))) (first | (go_at_call 24; refine (IH.out _ (List.getElem_mem hlt) ks'[k] _ _ _ F1 G1 HV.out.drew HV2.out.drew (HF1.out.mono hB.size) (HG1.out.mono hB.size)).mono ?_; rintro e w' ⟨rfl, hB'⟩; rw [HC.out]))
              have hB3 := hB1.drew.trans (hB'.mono hB1.size)
              go_wp2
              go_roundw
              case rel => exact ⟨k + 1, by omega, by omega, by go_num, hT2, hB3⟩
              case measure => simp [intOf]; omega
            · have hq2 : (q != 0) = true := by simpa using hq
              have hf2 : Hid (V.cmp ⟨c, n, ks⟩ ⟨c, n, ks'⟩ = q) := by rw [if_neg hq] at hd; exact hf.out.trans (HT.out.trans hd)
              have HC := Lib.hid hc
              clear hd hc hq
              go_wp2_with fail
              have hkeep : ∀ U U' : World, (U.cell? ⟨w.heap.size, 2, none⟩ = some (.slice (some ⟨b, off, none⟩) ks.length cap) ∧ U.cell? ⟨w.heap.size + 1, 2, none⟩ = some (.slice (some ⟨b', off', none⟩) ks'.length cap') ∧ U.cell? ⟨b, off + k * 3, none⟩ = some (.int .i64 ks[k].c) ∧ U.cell? ⟨b, off + k * 3 + 1, none⟩ = some (.int .i64 ks[k].n) ∧ U.cell? ⟨b, off + k * 3 + 2, none⟩ = some (.slice A1 ks[k].ks.length cap1) ∧ U.cell? ⟨b', off' + k * 3, none⟩ = some (.int .i64 ks'[k].c) ∧ U.cell? ⟨b', off' + k * 3 + 1, none⟩ = some (.int .i64 ks'[k].n) ∧ U.cell? ⟨b', off' + k * 3 + 2, none⟩ = some (.slice A2 ks'[k].ks.length cap2)) → Below U.heap.size U U' → wr.heap.size ≤ U.heap.size → (U'.cell? ⟨w.heap.size, 2, none⟩ = some (.slice (some ⟨b, off, none⟩) ks.length cap) ∧ U'.cell? ⟨w.heap.size + 1, 2, none⟩ = some (.slice (some ⟨b', off', none⟩) ks'.length cap') ∧ U'.cell? ⟨b, off + k * 3, none⟩ = some (.int .i64 ks[k].c) ∧ U'.cell? ⟨b, off + k * 3 + 1, none⟩ = some (.int .i64 ks[k].n) ∧ U'.cell? ⟨b, off + k * 3 + 2, none⟩ = some (.slice A1 ks[k].ks.length cap1) ∧ U'.cell? ⟨b', off' + k * 3, none⟩ = some (.int .i64 ks'[k].c) ∧ U'.cell? ⟨b', off' + k * 3 + 1, none⟩ = some (.int .i64 ks'[k].n) ∧ U'.cell? ⟨b', off' + k * 3 + 2, none⟩ = some (.slice A2 ks'[k].ks.length cap2)) := fun U U' h hb hU => ⟨(hb.cell (Nat.lt_of_lt_of_le (show w.heap.size < wr.heap.size from by omega) hU)).trans h.1, (hb.cell (Nat.lt_of_lt_of_le (show w.heap.size + 1 < wr.heap.size from by omega) hU)).trans h.2.1, (hb.cell (Nat.lt_of_lt_of_le (show b < wr.heap.size from by omega) hU)).trans h.2.2.1, (hb.cell (Nat.lt_of_lt_of_le (show b < wr.heap.size from by omega) hU)).trans h.2.2.2.1, (hb.cell (Nat.lt_of_lt_of_le (show b < wr.heap.size from by omega) hU)).trans h.2.2.2.2.1, (hb.cell (Nat.lt_of_lt_of_le (show b' < wr.heap.size from by omega) hU)).trans h.2.2.2.2.2.1, (hb.cell (Nat.lt_of_lt_of_le (show b' < wr.heap.size from by omega) hU)).trans h.2.2.2.2.2.2.1, (hb.cell (Nat.lt_of_lt_of_le (show b' < wr.heap.size from by omega) hU)).trans h.2.2.2.2.2.2.2⟩
              have HKeep := Lib.hid hkeep
              clear hkeep
              go_region_held3 (fun w' => w'.cell? ⟨w.heap.size, 2, none⟩ = some (.slice (some ⟨b, off, none⟩) ks.length cap) ∧ w'.cell? ⟨w.heap.size + 1, 2, none⟩ = some (.slice (some ⟨b', off', none⟩) ks'.length cap') ∧ w'.cell? ⟨b, off + k * 3, none⟩ = some (.int .i64 ks[k].c) ∧ w'.cell? ⟨b, off + k * 3 + 1, none⟩ = some (.int .i64 ks[k].n) ∧ w'.cell? ⟨b, off + k * 3 + 2, none⟩ = some (.slice A1 ks[k].ks.length cap1) ∧ w'.cell? ⟨b', off' + k * 3, none⟩ = some (.int .i64 ks'[k].c) ∧ w'.cell? ⟨b', off' + k * 3 + 1, none⟩ = some (.int .i64 ks'[k].n) ∧ w'.cell? ⟨b', off' + k * 3 + 2, none⟩ = some (.slice A2 ks'[k].ks.length cap2)) (first | assumption | (exact ⟨x2, y2, c0, c1, c2, d0, d1, d2⟩) | (exact HKeep.out wr.drew w' ⟨x2, y2, c0, c1, c2, d0, d1, d2⟩ hB' (Nat.le_refl _))) (first | (go_at_call 24; refine (IH.out _ (List.getElem_mem hlt) ks'[k] _ _ _ F1 G1 HV.out.drew HV2.out.drew (HF1.out.mono hB.size) (HG1.out.mono hB.size)).mono ?_; rintro e w' ⟨rfl, hB'⟩; rw [HC.out]))
              have hB3 := hB.drew.trans (hB'.mono hB.size)
              go_wp2
              go_ret
              exact ⟨ret_int hf2.out.symm, hB3⟩
          · have hf2 : Hid (V.cmp ⟨c, n, ks⟩ ⟨c, n, ks'⟩ = lessI ks.length ks'.length) := hf.out.trans (HT.out.trans (V.cmps_end ks ks' k hk hk' (.inr (by omega))))
            go_wp2_with (go_at_call 42; refine (spec_l2Less _ _ _).mono ?_; rintro e w' ⟨rfl, rfl⟩)
            go_ret
            exact ⟨ret_int hf2.out.symm, hB⟩
        · have hf2 : Hid (V.cmp ⟨c, n, ks⟩ ⟨c, n, ks'⟩ = lessI ks.length ks'.length) := hf.out.trans (HT.out.trans (V.cmps_end ks ks' k hk hk' (.inl (by omega))))
          go_wp2_with (go_at_call 42; refine (spec_l2Less _ _ _).mono ?_; rintro e w' ⟨rfl, rfl⟩)
          go_ret
          exact ⟨ret_int hf2.out.symm, hB⟩
    · have t1 : (n != n') = true := by simpa using e1
      have hf : Hid (V.cmp ⟨c, n, ks⟩ ⟨c, n', ks'⟩ = lessI n n') := by simp [Hid, V.cmp, e1]
      clear e1
      go_enter Try.func24, Try.ntmps24
      go_wp2_with (go_at_call 42; refine (spec_l2Less _ _ _).mono ?_; rintro e w' ⟨rfl, rfl⟩)
      go_ret
      exact ⟨ret_int hf.out.symm, ((Below.refl _ _).alloc (Nat.le_refl _) _).alloc (by simp) _⟩
  · have t0 : (c != c') = true := by simpa using e0
    have hf : Hid (V.cmp ⟨c, n, ks⟩ ⟨c', n', ks'⟩ = lessI c c') := by simp [Hid, V.cmp, e0]
    clear e0
    go_enter Try.func24, Try.ntmps24
    go_wp2_with (go_at_call 42; refine (spec_l2Less _ _ _).mono ?_; rintro e w' ⟨rfl, rfl⟩)
    go_ret
    exact ⟨ret_int hf.out.symm, ((Below.refl _ _).alloc (Nat.le_refl _) _).alloc (by simp) _⟩
theorem spec_CompareValues (a b : V) (w : World) (cs ds : List Value) (F G : List Nat) (hx : VR w a cs F) (hy : VR w b ds G) (hF : Under w.heap.size F) (hG : Under w.heap.size G) :
    Calls Try.prog 24 #[.agg cs.toArray, .agg ds.toArray] w fun e w' => e = .returned (.int .i64 (V.cmp a b)) ∧ Below w.heap.size w w' := spec_CompareValues_all a b w cs ds F G hx hy hF hG
end Go.Proofs.Ytjkpionncbmcaaa
