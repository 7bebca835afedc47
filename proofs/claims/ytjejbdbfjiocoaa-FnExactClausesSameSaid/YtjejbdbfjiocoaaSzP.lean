/-
  Contracts of the functions szPattern, szPatternS: they count the nodes down from a bound. Conditions: the bound is between 0 and 1048576.
-/
import Derived.Test.YtjejbdbfjiocoaaP
import Derived.Test.YtjejbdbfjiocoaaChecked
namespace Go.Proofs.Ytjejbdbfjiocoaa
open Go.RowKit

/-- contract of szPattern at one tree -/
def SzP (v : P) : Prop := ∀ (w : World) (cs : List Value) (F : List Nat) (left : Int), PR w v cs F → Under w.heap.size F → 0 ≤ left → left ≤ 1048576 →
  Calls Try.prog 27 #[.agg cs.toArray, .int .i64 left] w fun e w' => e = .returned (.int .i64 (szLeft v.size left)) ∧ Below w.heap.size w w'

set_option maxHeartbeats 400000 in
theorem szPatternS_of (ks : List P) (ih : ∀ k ∈ ks, SzP k) (w : World) (F : List Nat) (x : Value) (left : Int) (hx : Arr w (PR w) ks x F) (hF : Under w.heap.size F) (h0 : 0 ≤ left) (h1 : left ≤ 1048576) :
    Calls Try.prog 77 #[x, .int .i64 left] w fun e w' => e = .returned (.int .i64 (szLeft (P.sizes ks) left)) ∧ Below w.heap.size w w' := by
  have HX := Lib.hid hx
  obtain ⟨A, cap, rfl, hl, hm⟩ := hx.form
  clear hx
  have IH := Lib.hid ih
  clear ih
  have HF := Lib.hid hF
  clear hF
  by_cases hneg : left - (ks.length : Int) < 0
  · have hf : Hid (szLeft (P.sizes ks) left = -1) := by
      unfold szLeft; rw [P.sizes_eq]; exact if_neg (by omega)
    go_enter Try.func77, Try.ntmps77
    go_wp2
    go_ret
    exact ⟨ret_int hf.out.symm, Below.refl _ _⟩
  · have hpos : 0 ≤ left - (ks.length : Int) := by omega
    clear hneg
    go_enter Try.func77, Try.ntmps77
    go_wp2
    go_loopw [1, 5] (fun l i wr => ∃ k : Nat, ∃ m : Int, k ≤ ks.length ∧ i = .int .i64 k ∧ l = .int .i64 m ∧ 0 ≤ m ∧ m ≤ 1048576 ∧ Hid (m = left - ks.length - P.subs (ks.take k)) ∧ Below w.heap.size w wr) (fun _ i _ => ks.length - (intOf i).toNat)
    case atStart => exact ⟨0, _, Nat.zero_le _, rfl, rfl, hpos, by omega, by simp [Hid, P.subs], Below.refl _ _⟩
    case round =>
      obtain ⟨k, m, hk, rfl, rfl, hm0, hm1, HM, hB⟩ := hrel
      by_cases hlt : k < ks.length
      · obtain ⟨b, off, cs, G, rfl, hb, hcs, hv, hG⟩ := HX.out.get PR_len hlt
        have hbl := HF.out b hb
        have hGF := HF.out.sub hG
        have hv1 := hv.below hB hGF
        have hcs1 := hcs.same (hB.block b hbl)
        obtain ⟨kv, rfl, _⟩ := (PR_iff _ _ _).1 hv
        have c0 := hcs1 0 _ rfl
        have c1 := hcs1 1 _ rfl
        have c2 := hcs1 2 _ rfl
        have c3 := hcs1 3 _ rfl
        have c4 := hcs1 4 _ rfl
        have c5 := hcs1 5 _ rfl
        simp only [Nat.add_zero] at c0
        clear hcs hcs1 hv hG
        have HV := Lib.hid hv1
        clear hv1
        have HG := Lib.hid hGF
        clear hGF
        go_wp2_with fail
        refine (IH.out _ (List.getElem_mem hlt) _ _ G m HV.out (HG.out.mono hB.size) hm0 hm1).mono ?_
        rintro e w' ⟨rfl, hB'⟩
        have hB2 := hB.trans (hB'.mono hB.size)
        by_cases hle : (ks[k].size : Int) ≤ m
        · have e1 : szLeft ks[k].size m = m - ks[k].size := if_pos hle
          rw [e1]
          have hs : Hid (m - ks[k].size = left - ks.length - P.subs (ks.take (k + 1))) := by
            have := HM.out; rw [P.subs_take_succ ks k hlt]; unfold Hid; omega
          have hnn : 0 ≤ m - (ks[k].size : Int) := by omega
          have hn1 : m - (ks[k].size : Int) ≤ 1048576 := by omega
          clear e1
          generalize m - (ks[k].size : Int) = m' at *
          go_wp2
          go_roundw
          case rel => exact ⟨k + 1, m', by omega, by go_num, rfl, hnn, hn1, hs, hB2⟩
          case measure => simp [intOf]; omega
        · have e1 : szLeft ks[k].size m = -1 := if_neg hle
          rw [e1]
          have hf : Hid (szLeft (P.sizes ks) left = -1) := by
            unfold szLeft; rw [P.sizes_eq]
            have := HM.out
            have h2 := P.subs_take_le ks (k + 1)
            rw [P.subs_take_succ ks k hlt] at h2
            exact if_neg (by omega)
          go_wp2
          go_ret
          exact ⟨ret_int hf.out.symm, hB2⟩
      · have hf : Hid (szLeft (P.sizes ks) left = m) := by
          have := HM.out
          rw [List.take_of_length_le (by omega)] at this
          unfold szLeft; rw [P.sizes_eq]
          unfold Hid
          rw [if_pos (by omega)]; omega
        go_wp2
        go_ret
        exact ⟨ret_int hf.out.symm, hB⟩

set_option maxHeartbeats 400000 in
theorem szPattern_all : ∀ v, SzP v := P.ind fun op ct n m va ks ih w cs F left hv hF h0 h1 => by
  obtain ⟨kv, rfl, hk⟩ := (PR_iff _ _ _).1 hv
  have hf : Hid (szLeft (P.size ⟨op, ct, n, m, va, ks⟩) left = szLeft (P.sizes ks) left) := rfl
  have IH := Lib.hid ih
  clear ih hv
  have HK := Lib.hid hk
  obtain ⟨A, cap, rfl, -, -⟩ := hk.form
  clear hk
  have HF := Lib.hid hF
  clear hF
  go_enter Try.func27, Try.ntmps27
  go_wp2_with fail
  refine (szPatternS_of ks IH.out _ F _ left (ArrP.below HK.out ((Below.refl w.heap.size w).alloc (Nat.le_refl _) _) HF.out) (HF.out.mono (by simp)) h0 h1).mono ?_
  rintro e w' ⟨rfl, hB⟩
  have hB2 : Below w.heap.size w w' := ((Below.refl w.heap.size w).alloc (Nat.le_refl _) _).trans (hB.mono (by simp))
  have hneg : szLeft (P.sizes ks) left < 0 → szLeft (P.sizes ks) left = -1 := by unfold szLeft; split <;> omega
  generalize szLeft (P.sizes ks) left = m at *
  by_cases hm : m < 0
  · obtain rfl := hneg hm
    go_wp2
    go_ret
    exact ⟨ret_int hf.out.symm, hB2⟩
  · go_wp2
    go_ret
    exact ⟨ret_int hf.out.symm, hB2⟩
theorem szPattern_any (v : P) (w : World) (cs : List Value) (F : List Nat) (left : Int) (hv : PR w v cs F) (hF : Under w.heap.size F) (h0 : 0 ≤ left) (h1 : left ≤ 1048576) :
    Calls Try.prog 27 #[.agg cs.toArray, .int .i64 left] w fun e w' => e = .returned (.int .i64 (szLeft v.size left)) ∧ Below w.heap.size w w' := szPattern_all v w cs F left hv hF h0 h1
end Go.Proofs.Ytjejbdbfjiocoaa
