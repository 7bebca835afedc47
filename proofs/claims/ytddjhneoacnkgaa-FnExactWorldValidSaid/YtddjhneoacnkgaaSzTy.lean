/-
  Contract of szTypeS. Conditions: the bound is between 0 and 1048576.
-/
import Derived.Test.YtddjhneoacnkgaaTy
import Derived.Test.YtddjhneoacnkgaaChecked
import Derived.Deep.RegionHeld3
namespace Go.Proofs.Ytddjhneoacnkgaa
open Go.RowKit

set_option maxHeartbeats 400000 in
theorem szTypeS_any (ks : List Ty) (w : World) (F : List Nat) (x : Value) (left : Int) (hx : Arr w (TyR w) ks x F) (h0 : 0 ≤ left) (h1 : left ≤ 1048576) :
    Calls Try.prog 98 #[x, .int .i64 left] w fun e w' => e = .returned (.int .i64 (szLeft (Ty.sizes ks) left)) ∧ Below w.heap.size w w' := by
  obtain ⟨A, cap, rfl, hl, hm⟩ := hx.form
  clear hx
  have hz : Ty.sizes ks = ks.length := by
    unfold Ty.sizes
    have : sumBy Ty.size ks = 0 := by
      induction ks with
      | nil => rfl
      | cons x xs ih => simp only [sumBy, Ty.size, Nat.zero_add]; exact ih (by simp at hl; omega)
    omega
  by_cases hneg : left - (ks.length : Int) < 0
  · have hf : Hid (szLeft (Ty.sizes ks) left = -1) := by
      unfold szLeft; rw [hz]; exact if_neg (by omega)
    clear hz
    go_enter Try.func98, Try.ntmps98
    go_wp2
    go_ret
    exact ⟨ret_int hf.out.symm, Below.refl _ _⟩
  · have hpos : 0 ≤ left - (ks.length : Int) := by omega
    have hf : Hid (szLeft (Ty.sizes ks) left = left - ks.length) := by
      unfold szLeft; rw [hz]; exact if_pos (by omega)
    clear hneg hz
    go_enter Try.func98, Try.ntmps98
    go_wp2
    go_ret
    exact ⟨ret_int hf.out.symm, Below.refl _ _⟩
end Go.Proofs.Ytddjhneoacnkgaa
