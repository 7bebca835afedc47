/-
  Contracts of the two functions DepthOf. Conditions: at most 1048576 parts.
-/
import Derived.Test.YtjkpionncbmcaaaV
import Derived.Test.YtjkpionncbmcaaaChecked
namespace Go.Proofs.Ytjkpionncbmcaaa
open Go.RowKit

mutual
def V.depth : V → Nat
  | ⟨_, _, ks⟩ => V.depths ks + 1
def V.depths : List V → Nat
  | [] => 0
  | k :: ks => max (V.depth k) (V.depths ks)
end
theorem V.depths_snoc (l : List V) (x : V) : V.depths (l ++ [x]) = max (V.depths l) x.depth := by
  induction l with
  | nil => simp [V.depths]
  | cons k l ih => simp only [List.cons_append, V.depths, ih]; omega
theorem V.depths_le (ks : List V) (h : ∀ k ∈ ks, V.depth k ≤ V.size k + 1) : V.depths ks ≤ V.sizes ks := by
  induction ks with
  | nil => simp [V.depths]
  | cons k ks ih =>
    simp only [V.depths, V.sizes]
    have h1 := h k (by simp)
    have h2 := ih fun x hx => h x (by simp [hx])
    omega
theorem V.depth_le : ∀ v : V, v.depth ≤ v.size + 1 := V.ind fun c n ks ih => by
  simp only [V.depth, V.size]
  have := V.depths_le ks ih
  omega
theorem V.depths_take_succ (l : List V) (k : Nat) (h : k < l.length) : V.depths (l.take (k + 1)) = max (V.depths (l.take k)) l[k].depth := by
  rw [take_snoc' l k h, V.depths_snoc]
theorem V.sizes_mem (l : List V) (k : Nat) (h : k < l.length) : l[k].size + 1 ≤ V.sizes l := by
  have := V.size_lt l k h
  omega
theorem V.depths_take_le (l : List V) (k : Nat) : V.depths (l.take k) ≤ V.sizes l := by
  have h1 := V.depths_le (l.take k) (fun x _ => V.depth_le x)
  have h2 := V.sizes_eq (l.take k)
  have h3 := V.subs_take_le l k
  have h4 := V.sizes_eq l
  simp at h2
  omega

def DepthSpec (v : V) : Prop := ∀ (w : World) (cs : List Value) (F : List Nat), VR w v cs F → Under w.heap.size F → v.size ≤ 1048576 →
  Calls Try.prog 13 #[.agg cs.toArray] w fun e w' => e = .returned (.int .i64 v.depth) ∧ Below w.heap.size w w'

set_option maxHeartbeats 400000 in
theorem spec_DepthOf : ∀ v, DepthSpec v := V.ind fun c n ks ih w cs F hv hF hz => by
  obtain ⟨kv, rfl, hk⟩ := (VR_iff _ _ _).1 hv
  have hz' : V.sizes ks ≤ 1048576 := hz
  have hn : ks.length ≤ 1048576 := by rw [V.sizes_eq] at hz'; omega
  have HZ := Lib.hid hz'
  clear hz hz'
  have IH := Lib.hid ih
  clear ih hv
  obtain ⟨A, cap, rfl, -, -⟩ := hk.form
  have HK := Lib.hid hk
  clear hk
  have HF := Lib.hid hF
  clear hF
  go_enter Try.func13, Try.ntmps13
  go_wp2
  have hB0 : Below w.heap.size w (w.alloc (.cells #[.int .i64 c, .int .i64 n, .slice A ks.length cap] 31)) := (Below.refl _ _).alloc (Nat.le_refl _) _
  go_loopw [3, 4] (fun m i wr => ∃ k d : Nat, k ≤ ks.length ∧ i = .int .i64 k ∧ m = .int .i64 d ∧ d ≤ 1048576 ∧ Hid (d = V.depths (ks.take k)) ∧ Below (w.heap.size + 1) (w.alloc (.cells #[.int .i64 c, .int .i64 n, .slice A ks.length cap] 31)) wr) (fun _ i _ => ks.length - (intOf i).toNat)
  case atStart => exact ⟨0, 0, Nat.zero_le _, rfl, rfl, by omega, by simp [Hid, V.depths], Below.refl _ _⟩
  case round =>
    obtain ⟨k, d, hk, rfl, rfl, hd, HD, hB1⟩ := hrel
    have hB := hB0.trans (hB1.mono (by omega))
    have x2 : wr.cell? ⟨w.heap.size, 2, none⟩ = some (.slice A ks.length cap) := (hB1.cell (p := ⟨w.heap.size, 2, none⟩) (by simp)).trans (by simp)
    have hsz : w.heap.size < wr.heap.size := by have := hB1.size; simp at this; omega
    clear hB0
    by_cases hlt : k < ks.length
    · obtain ⟨b, off, cs, G, rfl, hb, hcs, hv, hG⟩ := HK.out.get VR_len hlt
      have hbl := HF.out b hb
      have hGF := HF.out.sub hG
      have hv1 := hv.below hB hGF
      have hcs1 := hcs.same (hB.block b hbl)
      obtain ⟨kv, rfl, _⟩ := (VR_iff _ _ _).1 hv
      have c0 := hcs1 0 _ rfl
      have c1 := hcs1 1 _ rfl
      have c2 := hcs1 2 _ rfl
      simp only [Nat.add_zero] at c0
      clear hcs hcs1 hv hG
      have HV := Lib.hid hv1
      clear hv1
      have HG := Lib.hid hGF
      clear hGF
      go_wp2_with fail
      refine (IH.out _ (List.getElem_mem hlt) _ _ G HV.out (HG.out.mono hB.size) (by have := V.sizes_mem ks k hlt; have := HZ.out; omega)).mono ?_
      rintro e w' ⟨rfl, hB'⟩
      have hB2 := hB1.trans (hB'.mono (by omega))
      have hs := V.depths_take_succ ks k hlt
      have hle : ks[k].depth ≤ 1048576 := by have := V.depth_le ks[k]; have := V.sizes_mem ks k hlt; have := HZ.out; omega
      by_cases hgt : d < ks[k].depth
      · have HS : Hid (ks[k].depth = V.depths (ks.take (k + 1))) := by rw [hs, ← HD.out]; unfold Hid; omega
        clear hs
        generalize ks[k].depth = e at *
        go_wp2
        go_roundw
        case rel => exact ⟨k + 1, e, by omega, by go_num, rfl, hle, HS, hB2⟩
        case measure => simp [intOf]; omega
      · have HS : Hid (d = V.depths (ks.take (k + 1))) := by rw [hs, ← HD.out]; unfold Hid; omega
        clear hs
        generalize ks[k].depth = e at *
        go_wp2
        go_roundw
        case rel => exact ⟨k + 1, d, by omega, by go_num, rfl, hd, HS, hB2⟩
        case measure => simp [intOf]; omega
    · have HS : Hid (((d : Int) + 1) = ((V.depth ⟨c, n, ks⟩ : Nat) : Int)) := by
        have := HD.out
        rw [List.take_of_length_le (by omega)] at this
        simp only [V.depth, Hid]; omega
      go_wp2
      go_ret
      exact ⟨ret_int HS.out, hB⟩

def DepthImpl (v : V) : Prop := ∀ (w : World) (cs : List Value) (F : List Nat), VR w v cs F → Under w.heap.size F → v.size ≤ 1048576 →
  Calls Try.prog 15 #[.agg cs.toArray] w fun e w' => e = .returned (.int .i64 v.depth) ∧ Below w.heap.size w w'

set_option maxHeartbeats 400000 in
theorem impl_DepthOf : ∀ v, DepthImpl v := V.ind fun c n ks ih w cs F hv hF hz => by
  obtain ⟨kv, rfl, hk⟩ := (VR_iff _ _ _).1 hv
  have hz' : V.sizes ks ≤ 1048576 := hz
  have hn : ks.length ≤ 1048576 := by rw [V.sizes_eq] at hz'; omega
  have HZ := Lib.hid hz'
  clear hz hz'
  have IH := Lib.hid ih
  clear ih hv
  obtain ⟨A, cap, rfl, -, -⟩ := hk.form
  have HK := Lib.hid hk
  clear hk
  have HF := Lib.hid hF
  clear hF
  go_enter Try.func15, Try.ntmps15
  go_wp2
  have hB0 : Below w.heap.size w (w.alloc (.cells #[.int .i64 c, .int .i64 n, .slice A ks.length cap] 31)) := (Below.refl _ _).alloc (Nat.le_refl _) _
  go_loopw [3, 9] (fun m i wr => ∃ k d : Nat, k ≤ ks.length ∧ i = .int .i64 k ∧ m = .int .i64 d ∧ d ≤ 1048576 ∧ Hid (d = V.depths (ks.take k)) ∧ Below w.heap.size w wr) (fun _ i _ => ks.length - (intOf i).toNat)
  case atStart => exact ⟨0, 0, Nat.zero_le _, rfl, rfl, by omega, by simp [Hid, V.depths], hB0⟩
  case round =>
    obtain ⟨k, d, hk, rfl, rfl, hd, HD, hB⟩ := hrel
    clear hB0
    by_cases hlt : k < ks.length
    · obtain ⟨b, off, cs, G, rfl, hb, hcs, hv, hG⟩ := HK.out.get VR_len hlt
      have hbl := HF.out b hb
      have hGF := HF.out.sub hG
      have hv1 := hv.below hB hGF
      have hcs1 := hcs.same (hB.block b hbl)
      obtain ⟨kv, rfl, ha⟩ := (VR_iff _ _ _).1 hv
      obtain ⟨A', cap', rfl, -, -⟩ := ha.form
      have c0 := hcs1 0 _ rfl
      have c1 := hcs1 1 _ rfl
      have c2 := hcs1 2 _ rfl
      simp only [Nat.add_zero] at c0
      clear hcs hcs1 hv hG ha
      have HV := Lib.hid hv1
      clear hv1
      have HG := Lib.hid hGF
      clear hGF
      go_wp2_with fail
      have hB1 := hB.alloc hB.size (.cells #[.int .i64 ks[k].c, .int .i64 ks[k].n, .slice A' ks[k].ks.length cap'] 31)
      refine (IH.out _ (List.getElem_mem hlt) _ _ G (HV.out.below ((Below.refl wr.heap.size wr).alloc (Nat.le_refl _) _) (HG.out.mono hB.size)) (HG.out.mono hB1.size) (by have := V.sizes_mem ks k hlt; have := HZ.out; omega)).mono ?_
      rintro e w' ⟨rfl, hB'⟩
      have hB2 := hB1.trans (hB'.mono hB1.size)
      have hs := V.depths_take_succ ks k hlt
      have hle : ks[k].depth ≤ 1048576 := by have := V.depth_le ks[k]; have := V.sizes_mem ks k hlt; have := HZ.out; omega
      have HS : Hid (max d ks[k].depth = V.depths (ks.take (k + 1))) := by rw [hs, ← HD.out]; rfl
      clear hs
      generalize ks[k].depth = e at *
      have hme : max d e ≤ 1048576 := by omega
      by_cases hde : d < e
      · have HS2 : Hid (e = V.depths (ks.take (k + 1))) := by rw [← HS.out]; unfold Hid; omega
        clear HS
        go_wp2
        go_roundw
        case rel => exact ⟨k + 1, e, by omega, by go_num, rfl, hle, HS2, hB2⟩
        case measure => simp [intOf]; omega
      · have HS2 : Hid (d = V.depths (ks.take (k + 1))) := by rw [← HS.out]; unfold Hid; omega
        clear HS
        go_wp2
        go_roundw
        case rel => exact ⟨k + 1, d, by omega, by go_num, rfl, hd, HS2, hB2⟩
        case measure => simp [intOf]; omega
    · have HS : Hid (((d : Int) + 1) = ((V.depth ⟨c, n, ks⟩ : Nat) : Int)) := by
        have := HD.out
        rw [List.take_of_length_le (by omega)] at this
        simp only [V.depth, Hid]; omega
      go_wp2
      go_ret
      exact ⟨ret_int HS.out, hB⟩
end Go.Proofs.Ytjkpionncbmcaaa
