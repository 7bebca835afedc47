/-
  Contract of szCtor. Conditions: the bound is between 0 and 1048576.
-/
import Derived.Test.YtddjhneoacnkgaaKt
import Derived.Test.YtddjhneoacnkgaaSzTy
import Derived.Test.YtddjhneoacnkgaaChecked
namespace Go.Proofs.Ytddjhneoacnkgaa
open Go.RowKit

set_option maxHeartbeats 400000 in
theorem szCtor_any (x : Kt) (w : World) (cs : List Value) (F : List Nat) (left : Int) (hv : KtR w x cs F) (hF : Under w.heap.size F) (h0 : 0 ≤ left) (h1 : left ≤ 1048576) :
    Calls Try.prog 94 #[.agg cs.toArray, .int .i64 left] w fun e w' => e = .returned (.int .i64 (szLeft x.size left)) ∧ Below w.heap.size w w' := by
  obtain ⟨kv, rfl, ha, hs0⟩ := hv
  have HA := Lib.hid ha
  obtain ⟨A, cap, rfl, -, -⟩ := ha.form
  clear ha
  have HF := Lib.hid hF
  clear hF
  by_cases hneg : left - (x.name.size : Int) < 0
  · have hf : Hid (szLeft x.size left = -1) := by
      unfold szLeft Kt.size; exact if_neg (by omega)
    go_enter Try.func94, Try.ntmps94
    go_wp2
    go_ret
    exact ⟨ret_int hf.out.symm, (Below.refl _ _).alloc (Nat.le_refl _) _⟩
  · have hpos : 0 ≤ left - (x.name.size : Int) := by omega
    clear hneg
    go_enter Try.func94, Try.ntmps94
    go_wp2_with fail
    have hB1 := (Below.refl w.heap.size w).alloc (Nat.le_refl _) (.cells #[.string x.name, .slice A x.args.length cap, .int .i64 x.idx] 113)
    refine (szTypeS_any x.args _ F _ (left - (x.name.size : Int)) (ArrTy.below HA.out hB1 HF.out) (by omega) (by omega)).mono ?_
    rintro e w' ⟨rfl, hB⟩
    have hB2 := hB1.trans (hB.mono hB1.size)
    have hf : Hid (szLeft x.size left = szLeft (Ty.sizes x.args) (left - (x.name.size : Int))) := by unfold Hid szLeft Kt.size; split <;> split <;> omega
    have hneg : szLeft (Ty.sizes x.args) (left - (x.name.size : Int)) < 0 → szLeft (Ty.sizes x.args) (left - (x.name.size : Int)) = -1 := by unfold szLeft; split <;> omega
    clear hB
    generalize szLeft (Ty.sizes x.args) (left - (x.name.size : Int)) = m at *
    by_cases hm : m < 0
    · obtain rfl := hneg hm
      go_wp2
      go_ret
      exact ⟨ret_int hf.out.symm, hB2⟩
    · go_wp2
      go_ret
      exact ⟨ret_int hf.out.symm, hB2⟩
end Go.Proofs.Ytddjhneoacnkgaa
