/-
  Contracts of eqValue, eqValueS at equal trees. Conditions: both stand for the same tree of at most 1048576 parts.
-/
import Derived.Test.YtjkpionncbmcaaaV
import Derived.Test.YtjkpionncbmcaaaChecked
import Derived.Deep.RegionWith
import Derived.Deep.RegionHeld3
import Derived.BigQuiet
namespace Go.Proofs.Ytjkpionncbmcaaa
open Go.RowKit

def EqV (v : V) : Prop := ∀ (w : World) (cs ds : List Value) (F G : List Nat), VR w v cs F → VR w v ds G → Under w.heap.size F → Under w.heap.size G →
  Calls Try.prog 16 #[.agg cs.toArray, .agg ds.toArray] w fun e w' => e = .returned (.bool true) ∧ Below w.heap.size w w'

set_option maxHeartbeats 400000 in
theorem eqValueS_of (ks : List V) (ih : ∀ k ∈ ks, EqV k) (w : World) (F G : List Nat) (x y : Value) (hx : Arr w (VR w) ks x F) (hy : Arr w (VR w) ks y G) (hF : Under w.heap.size F) (hG : Under w.heap.size G) :
    Calls Try.prog 36 #[x, y] w fun e w' => e = .returned (.bool true) ∧ Below w.heap.size w w' := by
  have HX := Lib.hid hx
  have HY := Lib.hid hy
  obtain ⟨A, cap, rfl, hl, hm⟩ := hx.form
  obtain ⟨A', cap', rfl, hl', hm'⟩ := hy.form
  clear hx hy
  have IH := Lib.hid ih
  clear ih
  have HF := Lib.hid hF
  have HG := Lib.hid hG
  clear hF hG
  go_enter Try.func36, Try.ntmps36
  go_wp2
  go_loopw [5] (fun i wr => ∃ k : Nat, k ≤ ks.length ∧ i = .int .i64 k ∧ Below w.heap.size w wr) (fun i _ => ks.length - (intOf i).toNat)
  case atStart => exact ⟨0, Nat.zero_le _, rfl, Below.refl _ _⟩
  case round =>
    obtain ⟨k, hk, rfl, hB⟩ := hrel
    by_cases hlt : k < ks.length
    · obtain ⟨b, off, cs, F1, rfl, hb, hcs, hv, hF1⟩ := HX.out.get VR_len hlt
      obtain ⟨b', off', ds, G1, rfl, hb', hds, hv', hG1⟩ := HY.out.get VR_len hlt
      have hv1 := hv.below hB (HF.out.sub hF1)
      have hv2 := hv'.below hB (HG.out.sub hG1)
      have hcs1 := hcs.same (hB.block b (HF.out b hb))
      have hds1 := hds.same (hB.block b' (HG.out b' hb'))
      obtain ⟨kv, rfl, _⟩ := (VR_iff _ _ _).1 hv
      obtain ⟨kv', rfl, _⟩ := (VR_iff _ _ _).1 hv'
      have c0 := hcs1 0 _ rfl
      have c1 := hcs1 1 _ rfl
      have c2 := hcs1 2 _ rfl
      have d0 := hds1 0 _ rfl
      have d1 := hds1 1 _ rfl
      have d2 := hds1 2 _ rfl
      simp only [Nat.add_zero] at c0 d0
      clear hcs hcs1 hv hds hds1 hv'
      have HV := Lib.hid hv1
      have HV2 := Lib.hid hv2
      have HF1 := Lib.hid (HF.out.sub hF1)
      have HG1 := Lib.hid (HG.out.sub hG1)
      clear hv1 hv2 hF1 hG1
      go_wp2_with fail
      go_region_with (go_at_call 16; refine (IH.out _ (List.getElem_mem hlt) _ _ _ F1 G1 HV.out.drew HV2.out.drew (HF1.out.mono hB.size) (HG1.out.mono hB.size)).mono ?_; rintro e w' ⟨rfl, hB'⟩)
      all_goals
        have hB2 := hB.drew.trans (hB'.mono hB.size)
        go_wp2
        go_roundw
        case rel => exact ⟨k + 1, by omega, by go_num, hB2⟩
        case measure => simp [intOf]; omega
    · go_wp2
      go_ret
      exact ⟨rfl, hB⟩

set_option maxHeartbeats 400000 in
theorem eqValue_all : ∀ v, EqV v := V.ind fun c n ks ih w cs ds F G hv hv' hF hG => by
  obtain ⟨kv, rfl, hk⟩ := (VR_iff _ _ _).1 hv
  obtain ⟨kv', rfl, hk'⟩ := (VR_iff _ _ _).1 hv'
  have IH := Lib.hid ih
  clear ih hv hv'
  have HK := Lib.hid hk
  have HK' := Lib.hid hk'
  obtain ⟨A, cap, rfl, -, -⟩ := hk.form
  obtain ⟨A', cap', rfl, -, -⟩ := hk'.form
  clear hk hk'
  have HF := Lib.hid hF
  have HG := Lib.hid hG
  clear hF hG
  have hc0 : (c != c) = false := by simp
  have hn0 : (n != n) = false := by simp
  go_enter Try.func16, Try.ntmps16
  go_wp2_with fail
  obtain ⟨W2, hW2⟩ : ∃ W2, W2 = ((w.alloc (Obj.cells #[Value.int IntKind.i64 c, Value.int IntKind.i64 n, Value.slice A ks.length cap] 31)).alloc
          (Obj.cells #[Value.int IntKind.i64 c, Value.int IntKind.i64 n, Value.slice A' ks.length cap'] 31)) := ⟨_, rfl⟩
  have hB2 : Below w.heap.size w W2 := by rw [hW2]; exact ((Below.refl _ _).alloc (Nat.le_refl _) _).alloc (by simp) _
  rw [← hW2]
  clear hW2
  refine (eqValueS_of ks IH.out _ F G _ _ (ArrV.below HK.out hB2 HF.out) (ArrV.below HK'.out hB2 HG.out) (HF.out.mono hB2.size) (HG.out.mono hB2.size)).mono ?_
  rintro e w' ⟨rfl, hB'⟩
  have hB3 := hB2.trans (hB'.mono hB2.size)
  go_wp2
  go_ret
  exact ⟨rfl, hB3⟩

theorem eqValueS_any (ks : List V) (w : World) (F G : List Nat) (x y : Value) (hx : Arr w (VR w) ks x F) (hy : Arr w (VR w) ks y G) (hF : Under w.heap.size F) (hG : Under w.heap.size G) :
    Calls Try.prog 36 #[x, y] w fun e w' => e = .returned (.bool true) ∧ Below w.heap.size w w' := eqValueS_of ks (fun k _ => eqValue_all k) w F G x y hx hy hF hG
theorem eqValue_any (v : V) (w : World) (cs ds : List Value) (F G : List Nat) (hx : VR w v cs F) (hy : VR w v ds G) (hF : Under w.heap.size F) (hG : Under w.heap.size G) :
    Calls Try.prog 16 #[.agg cs.toArray, .agg ds.toArray] w fun e w' => e = .returned (.bool true) ∧ Below w.heap.size w w' := eqValue_all v w cs ds F G hx hy hF hG
end Go.Proofs.Ytjkpionncbmcaaa
