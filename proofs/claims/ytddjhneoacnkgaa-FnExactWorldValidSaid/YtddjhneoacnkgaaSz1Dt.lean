/-
  Contract of szData. Conditions: the bound is between 0 and 1048576.
-/
import Derived.Test.YtddjhneoacnkgaaDt
import Derived.Test.YtddjhneoacnkgaaSzKt
import Derived.Test.YtddjhneoacnkgaaChecked
namespace Go.Proofs.Ytddjhneoacnkgaa
open Go.RowKit

set_option maxHeartbeats 400000 in
theorem szData_any (x : Dt) (w : World) (cs : List Value) (F : List Nat) (left : Int) (hv : DtR w x cs F) (hF : Under w.heap.size F) (h0 : 0 ≤ left) (h1 : left ≤ 1048576) :
    Calls Try.prog 41 #[.agg cs.toArray, .int .i64 left] w fun e w' => e = .returned (.int .i64 (szLeft x.size left)) ∧ Below w.heap.size w w' := by
  obtain ⟨kv, rfl, ha, hs0⟩ := hv
  have HA := Lib.hid ha
  obtain ⟨A, cap, rfl, -, -⟩ := ha.form
  clear ha
  have HF := Lib.hid hF
  clear hF
  by_cases hneg : left - (x.name.size : Int) < 0
  · have hf : Hid (szLeft x.size left = -1) := by
      unfold szLeft Dt.size; exact if_neg (by omega)
    go_enter Try.func41, Try.ntmps41
    go_wp2
    go_ret
    exact ⟨ret_int hf.out.symm, (Below.refl _ _).alloc (Nat.le_refl _) _⟩
  · have hpos : 0 ≤ left - (x.name.size : Int) := by omega
    clear hneg
    go_enter Try.func41, Try.ntmps41
    go_wp2_with fail
    have hB1 := (Below.refl w.heap.size w).alloc (Nat.le_refl _) (.cells #[.string x.name, .slice A x.ctors.length cap] 62)
    refine (szCtorS_any x.ctors _ F _ (left - (x.name.size : Int)) (ArrKt.below HA.out hB1 HF.out) (HF.out.mono hB1.size) (by omega) (by omega)).mono ?_
    rintro e w' ⟨rfl, hB⟩
    have hB2 := hB1.trans (hB.mono hB1.size)
    have hf : Hid (szLeft x.size left = szLeft (Kt.sizes x.ctors) (left - (x.name.size : Int))) := by unfold Hid szLeft Dt.size; split <;> split <;> omega
    have hneg : szLeft (Kt.sizes x.ctors) (left - (x.name.size : Int)) < 0 → szLeft (Kt.sizes x.ctors) (left - (x.name.size : Int)) = -1 := by unfold szLeft; split <;> omega
    clear hB
    generalize szLeft (Kt.sizes x.ctors) (left - (x.name.size : Int)) = m at *
    by_cases hm : m < 0
    · obtain rfl := hneg hm
      go_wp2
      go_ret
      exact ⟨ret_int hf.out.symm, hB2⟩
    · go_wp2
      go_ret
      exact ⟨ret_int hf.out.symm, hB2⟩
end Go.Proofs.Ytddjhneoacnkgaa
