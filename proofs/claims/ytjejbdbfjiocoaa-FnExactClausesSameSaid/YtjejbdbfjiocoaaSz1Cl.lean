/-
  Contract of szClause. Conditions: the bound is between 0 and 1048576.
-/
import Derived.Test.YtjejbdbfjiocoaaCl
import Derived.Test.YtjejbdbfjiocoaaSzP
import Derived.Test.YtjejbdbfjiocoaaChecked
namespace Go.Proofs.Ytjejbdbfjiocoaa
open Go.RowKit

set_option maxHeartbeats 400000 in
theorem szClause_any (x : Cl) (w : World) (cs : List Value) (F : List Nat) (left : Int) (hv : ClR w x cs F) (hF : Under w.heap.size F) (h0 : 0 ≤ left) (h1 : left ≤ 1048576) :
    Calls Try.prog 43 #[.agg cs.toArray, .int .i64 left] w fun e w' => e = .returned (.int .i64 (szLeft x.size left)) ∧ Below w.heap.size w w' := by
  obtain ⟨kv, rfl, ha⟩ := hv
  have HA := Lib.hid ha
  obtain ⟨kw, rfl, ha2⟩ := (PR_iff _ _ _).1 ha
  obtain ⟨A, cap, rfl, -, -⟩ := ha2.form
  clear ha ha2
  have HF := Lib.hid hF
  clear hF
  go_enter Try.func43, Try.ntmps43
  go_wp2_with fail
  have hB1 := (Below.refl w.heap.size w).alloc (Nat.le_refl _) (.cells #[.int .i64 x.pat.op, .int .i64 x.pat.ct, .int .i64 x.pat.n, .int .i64 x.pat.m, .int .i64 x.pat.va, .slice A x.pat.ks.length cap, .int .i64 x.gd.op, .int .i64 x.gd.va, .int .i64 x.gd.n] 74)
  refine (szPattern_any x.pat _ _ F left (HA.out.below hB1 HF.out) (HF.out.mono hB1.size) (by omega) (by omega)).mono ?_
  rintro e w' ⟨rfl, hB⟩
  have hB2 := hB1.trans (hB.mono hB1.size)
  have hf : Hid (szLeft x.size left = szLeft (x.pat.size) left) := rfl
  have hneg : szLeft (x.pat.size) left < 0 → szLeft (x.pat.size) left = -1 := by unfold szLeft; split <;> omega
  clear hB
  generalize szLeft (x.pat.size) left = m at *
  by_cases hm : m < 0
  · obtain rfl := hneg hm
    go_wp2
    go_ret
    exact ⟨ret_int hf.out.symm, hB2⟩
  · go_wp2
    go_ret
    exact ⟨ret_int hf.out.symm, hB2⟩
end Go.Proofs.Ytjejbdbfjiocoaa
