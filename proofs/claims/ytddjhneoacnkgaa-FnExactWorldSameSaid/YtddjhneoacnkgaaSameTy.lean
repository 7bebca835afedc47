/-
  slices.Equal at types: equality of lists of types. Conditions: none.
-/
import Derived.Test.YtddjhneoacnkgaaTy
import Derived.Test.YtddjhneoacnkgaaChecked
import Derived.BigQuiet
import Derived.Deep.QuietTactic
namespace Go.Proofs.Ytddjhneoacnkgaa
open Go.RowKit

def Ty.same (a b : Ty) : Bool := a.d == b.d && a.i == b.i
theorem Ty.same_iff (a b : Ty) : Ty.same a b = true ↔ a = b := by
  unfold Ty.same
  rw [Bool.and_eq_true, beq_iff_eq, beq_iff_eq]
  constructor
  · rintro ⟨h1, h2⟩; exact Ty.ext h1 h2
  · rintro rfl; exact ⟨rfl, rfl⟩

set_option maxRecDepth 100000 in
set_option maxHeartbeats 800000 in
theorem Equal_Ty (xs ys : List Ty) (w : World) (F G : List Nat) (x y : Value) (hx : Arr w (TyR w) xs x F) (hy : Arr w (TyR w) ys y G) :
    Calls Try.prog 45 #[x, y] w fun e w' => e = .returned (.bool (sameBy Ty.same xs ys)) ∧ ∃ n, w' = w.drewN n := by
  have HX := Lib.hid hx
  have HY := Lib.hid hy
  obtain ⟨A, cap, rfl, hl, hm⟩ := hx.form
  obtain ⟨A', cap', rfl, hl', hm'⟩ := hy.form
  clear hx hy
  by_cases hlen : xs.length = ys.length
  · have tl : ((xs.length : Int) != (ys.length : Int)) = false := by rw [hlen]; simp
    have h1 : xs.length ≤ ys.length := by omega
    have h2 : ys.length ≤ xs.length := by omega
    clear hlen
    go_enter Try.func45, Try.ntmps45
    go_wp2
    go_loopw [13] (fun i wr => ∃ k q : Nat, k ≤ xs.length ∧ i = .int .i64 k ∧ Hid (sameBy Ty.same xs ys = sameBy Ty.same (xs.drop k) (ys.drop k)) ∧ wr = w.drewN q) (fun i _ => xs.length - (intOf i).toNat)
    case atStart => exact ⟨0, 0, Nat.zero_le _, rfl, rfl, rfl⟩
    case round =>
      obtain ⟨k, q, hk, rfl, HT, rfl⟩ := hrel
      by_cases hlt : k < xs.length
      · have hlt' : k < ys.length := by omega
        have hi0 : (0 : Int) ≤ (k : Int) := by omega
        have hi1 : (k : Int) < (xs.length : Int) := by omega
        have hi2 : (k : Int) < (ys.length : Int) := by omega
        obtain ⟨b, off, cs, F1, rfl, hb, hcs, hv, -⟩ := HX.out.get TyR_len hlt
        obtain ⟨b', off', ds, G1, rfl, hb', hds, hv', -⟩ := HY.out.get TyR_len hlt'
        obtain rfl := TyR_form hv
        obtain rfl := TyR_form hv'
        have c0 := hcs 0 _ rfl
        have c1 := hcs 1 _ rfl
        have d0 := hds 0 _ rfl
        have d1 := hds 1 _ rfl
        simp only [Nat.add_zero] at c0 d0
        clear hcs hds hv hv' hb hb'
        have hd := sameBy_drop (f := Ty.same) xs ys k hlt hlt'
        cases hs : Ty.same xs[k] ys[k] with
        | true =>
          rw [hs, Bool.true_and] at hd
          have HT2 : Hid (sameBy Ty.same xs ys = sameBy Ty.same (xs.drop (k + 1)) (ys.drop (k + 1))) := HT.out.trans hd
          have he := (Ty.same_iff _ _).1 hs
          have e0 : (xs[k].d == ys[k].d) = true := by rw [he]; simp
          have e1 : (xs[k].i == ys[k].i) = true := by rw [he]; simp
          clear hd hs he
          go_wp2_with fail
          go_quiet (fail)
          go_wp2
          go_roundw
          case rel => exact ⟨k + 1, _, by omega, by go_num, HT2, rfl⟩
          case measure => simp [intOf]; omega
        | false =>
          rw [hs, Bool.false_and] at hd
          have hf := Lib.hid (HT.out.trans hd)
          clear hd
          unfold Ty.same at hs
          cases e0 : (xs[k].d == ys[k].d) with
          | true =>
            have e1 : (xs[k].i == ys[k].i) = false := by rw [e0, Bool.true_and] at hs; exact hs
            clear hs
            go_wp2_with fail
            go_quiet (fail)
            go_wp2
            go_ret
            exact ⟨ret_bool hf.out.symm, _, World.drewN_drewN _ _ _⟩
          | false =>
            clear hs
            go_wp2_with fail
            go_quiet (fail)
            go_wp2
            go_ret
            exact ⟨ret_bool hf.out.symm, _, World.drewN_drewN _ _ _⟩
      · have hT := HT.out
        rw [List.drop_of_length_le (by omega), List.drop_of_length_le (by omega)] at hT
        have hf : Hid (sameBy Ty.same xs ys = true) := hT
        clear hT
        go_wp2
        go_ret
        exact ⟨ret_bool hf.out.symm, _, rfl⟩
  · have tl : ((xs.length : Int) != (ys.length : Int)) = true := by rw [bne_iff_ne]; omega
    have hf := Lib.hid (sameBy_len_false (f := Ty.same) hlen)
    clear hlen
    go_enter Try.func45, Try.ntmps45
    go_wp2
    go_ret
    exact ⟨ret_bool hf.out.symm, 0, rfl⟩
end Go.Proofs.Ytddjhneoacnkgaa
