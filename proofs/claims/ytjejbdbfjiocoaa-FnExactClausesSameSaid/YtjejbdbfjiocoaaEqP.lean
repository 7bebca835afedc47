/-
  Contracts of eqPattern, eqPatternS at equal trees. Conditions: both stand for the same tree of at most 1048576 parts.
-/
import Derived.Test.YtjejbdbfjiocoaaP
import Derived.Test.YtjejbdbfjiocoaaChecked
import Derived.Deep.RegionWith
import Derived.Deep.RegionHeld3
import Derived.BigQuiet
namespace Go.Proofs.Ytjejbdbfjiocoaa
open Go.RowKit

def EqP (v : P) : Prop := ∀ (w : World) (cs ds : List Value) (F G : List Nat), PR w v cs F → PR w v ds G → Under w.heap.size F → Under w.heap.size G →
  Calls Try.prog 31 #[.agg cs.toArray, .agg ds.toArray] w fun e w' => e = .returned (.bool true) ∧ Below w.heap.size w w'

set_option maxHeartbeats 400000 in
theorem eqPatternS_of (ks : List P) (ih : ∀ k ∈ ks, EqP k) (w : World) (F G : List Nat) (x y : Value) (hx : Arr w (PR w) ks x F) (hy : Arr w (PR w) ks y G) (hF : Under w.heap.size F) (hG : Under w.heap.size G) :
    Calls Try.prog 57 #[x, y] w fun e w' => e = .returned (.bool true) ∧ Below w.heap.size w w' := by
  have HX := Lib.hid hx
  have HY := Lib.hid hy
  obtain ⟨A, cap, rfl, hl, hm⟩ := hx.form
  obtain ⟨A', cap', rfl, hl', hm'⟩ := hy.form
  clear hx hy
  have IH := Lib.hid ih
  clear ih
  have HF := Lib.hid hF
  have HG := Lib.hid hG
  clear hF hG
  go_enter Try.func57, Try.ntmps57
  go_wp2
  go_loopw [5] (fun i wr => ∃ k : Nat, k ≤ ks.length ∧ i = .int .i64 k ∧ Below w.heap.size w wr) (fun i _ => ks.length - (intOf i).toNat)
  case atStart => exact ⟨0, Nat.zero_le _, rfl, Below.refl _ _⟩
  case round =>
    obtain ⟨k, hk, rfl, hB⟩ := hrel
    by_cases hlt : k < ks.length
    · obtain ⟨b, off, cs, F1, rfl, hb, hcs, hv, hF1⟩ := HX.out.get PR_len hlt
      obtain ⟨b', off', ds, G1, rfl, hb', hds, hv', hG1⟩ := HY.out.get PR_len hlt
      have hv1 := hv.below hB (HF.out.sub hF1)
      have hv2 := hv'.below hB (HG.out.sub hG1)
      have hcs1 := hcs.same (hB.block b (HF.out b hb))
      have hds1 := hds.same (hB.block b' (HG.out b' hb'))
      obtain ⟨kv, rfl, _⟩ := (PR_iff _ _ _).1 hv
      obtain ⟨kv', rfl, _⟩ := (PR_iff _ _ _).1 hv'
      have c0 := hcs1 0 _ rfl
      have c1 := hcs1 1 _ rfl
      have c2 := hcs1 2 _ rfl
      have c3 := hcs1 3 _ rfl
      have c4 := hcs1 4 _ rfl
      have c5 := hcs1 5 _ rfl
      have d0 := hds1 0 _ rfl
      have d1 := hds1 1 _ rfl
      have d2 := hds1 2 _ rfl
      have d3 := hds1 3 _ rfl
      have d4 := hds1 4 _ rfl
      have d5 := hds1 5 _ rfl
      simp only [Nat.add_zero] at c0 d0
      clear hcs hcs1 hv hds hds1 hv'
      have HV := Lib.hid hv1
      have HV2 := Lib.hid hv2
      have HF1 := Lib.hid (HF.out.sub hF1)
      have HG1 := Lib.hid (HG.out.sub hG1)
      clear hv1 hv2 hF1 hG1
      go_wp2_with fail
      go_region_with (go_at_call 31; refine (IH.out _ (List.getElem_mem hlt) _ _ _ F1 G1 HV.out.drew HV2.out.drew (HF1.out.mono hB.size) (HG1.out.mono hB.size)).mono ?_; rintro e w' ⟨rfl, hB'⟩)
      all_goals
        have hB2 := hB.drew.trans (hB'.mono hB.size)
        go_wp2
        go_roundw
        case rel => exact ⟨k + 1, by omega, by go_num, hB2⟩
        case measure => simp [intOf]; omega
    · go_wp2
      go_ret
      exact ⟨rfl, hB⟩

set_option maxHeartbeats 400000 in
theorem eqPattern_all : ∀ v, EqP v := P.ind fun op ct n m va ks ih w cs ds F G hv hv' hF hG => by
  obtain ⟨kv, rfl, hk⟩ := (PR_iff _ _ _).1 hv
  obtain ⟨kv', rfl, hk'⟩ := (PR_iff _ _ _).1 hv'
  have IH := Lib.hid ih
  clear ih hv hv'
  have HK := Lib.hid hk
  have HK' := Lib.hid hk'
  obtain ⟨A, cap, rfl, -, -⟩ := hk.form
  obtain ⟨A', cap', rfl, -, -⟩ := hk'.form
  clear hk hk'
  have HF := Lib.hid hF
  have HG := Lib.hid hG
  clear hF hG
  have hop0 : (op != op) = false := by simp
  have hct0 : (ct != ct) = false := by simp
  have hn0 : (n != n) = false := by simp
  have hm0 : (m != m) = false := by simp
  have hva0 : (va != va) = false := by simp
  go_enter Try.func31, Try.ntmps31
  go_wp2_with fail
  obtain ⟨W2, hW2⟩ : ∃ W2, W2 = ((w.alloc (Obj.cells #[Value.int IntKind.i64 op, Value.int IntKind.i64 ct, Value.int IntKind.i64 n, Value.int IntKind.i64 m, Value.int IntKind.i64 va, Value.slice A ks.length cap] 51)).alloc
          (Obj.cells #[Value.int IntKind.i64 op, Value.int IntKind.i64 ct, Value.int IntKind.i64 n, Value.int IntKind.i64 m, Value.int IntKind.i64 va, Value.slice A' ks.length cap'] 51)) := ⟨_, rfl⟩
  have hB2 : Below w.heap.size w W2 := by rw [hW2]; exact ((Below.refl _ _).alloc (Nat.le_refl _) _).alloc (by simp) _
  rw [← hW2]
  clear hW2
  refine (eqPatternS_of ks IH.out _ F G _ _ (ArrP.below HK.out hB2 HF.out) (ArrP.below HK'.out hB2 HG.out) (HF.out.mono hB2.size) (HG.out.mono hB2.size)).mono ?_
  rintro e w' ⟨rfl, hB'⟩
  have hB3 := hB2.trans (hB'.mono hB2.size)
  go_wp2
  go_ret
  exact ⟨rfl, hB3⟩

theorem eqPatternS_any (ks : List P) (w : World) (F G : List Nat) (x y : Value) (hx : Arr w (PR w) ks x F) (hy : Arr w (PR w) ks y G) (hF : Under w.heap.size F) (hG : Under w.heap.size G) :
    Calls Try.prog 57 #[x, y] w fun e w' => e = .returned (.bool true) ∧ Below w.heap.size w w' := eqPatternS_of ks (fun k _ => eqPattern_all k) w F G x y hx hy hF hG
theorem eqPattern_any (v : P) (w : World) (cs ds : List Value) (F G : List Nat) (hx : PR w v cs F) (hy : PR w v ds G) (hF : Under w.heap.size F) (hG : Under w.heap.size G) :
    Calls Try.prog 31 #[.agg cs.toArray, .agg ds.toArray] w fun e w' => e = .returned (.bool true) ∧ Below w.heap.size w w' := eqPattern_all v w cs ds F G hx hy hF hG
end Go.Proofs.Ytjejbdbfjiocoaa
