/-
  Equality of constructors: the reference's l1SameCtor and the closure in the program's WorldSame. Conditions: none.
-/
import Derived.Test.YtddjhneoacnkgaaKt
import Derived.Test.YtddjhneoacnkgaaSameTy
import Derived.Deep.RegionWith
namespace Go.Proofs.Ytddjhneoacnkgaa
open Go.RowKit

def Kt.same (a b : Kt) : Bool := (a.name.toList == b.name.toList) && (a.idx == b.idx && sameBy Ty.same a.args b.args)
theorem Kt.same_iff (a b : Kt) : Kt.same a b = true ↔ a = b := by
  unfold Kt.same
  rw [Bool.and_eq_true, Bool.and_eq_true, bytes_beq_iff, beq_iff_eq, sameBy_iff Ty.same_iff]
  constructor
  · rintro ⟨h1, h2, h3⟩; exact Kt.ext h1 h3 h2
  · rintro rfl; exact ⟨rfl, rfl, rfl⟩

set_option maxRecDepth 100000 in
set_option maxHeartbeats 1600000 in
theorem spec_l1SameCtor (a b : Kt) (w : World) (cs ds : List Value) (F G : List Nat) (hv : KtR w a cs F) (hv' : KtR w b ds G) (hF : Under w.heap.size F) (hG : Under w.heap.size G) :
    Calls Try.prog 42 #[.agg cs.toArray, .agg ds.toArray] w fun e w' => e = .returned (.bool (Kt.same a b)) ∧ Below w.heap.size w w' := by
  obtain ⟨kv, rfl, ha, hs⟩ := hv
  obtain ⟨kv', rfl, ha', hs'⟩ := hv'
  have HX := Lib.hid ha
  have HY := Lib.hid ha'
  obtain ⟨A, cap, rfl, hc1, hc2⟩ := ha.form
  obtain ⟨A', cap', rfl, hc3, hc4⟩ := ha'.form
  clear ha ha'
  have HF := Lib.hid hF
  have HG := Lib.hid hG
  clear hF hG
  cases e0 : (a.name.toList == b.name.toList) with
  | false =>
    have hf : Hid (Kt.same a b = false) := by unfold Kt.same; rw [e0]; rfl
    go_enter Try.func42, Try.ntmps42
    go_wp2
    go_ret
    exact ⟨ret_bool hf.out.symm, ((Below.refl _ _).alloc (Nat.le_refl _) _).alloc (by simp) _⟩
  | true =>
    cases e1 : (a.idx == b.idx) with
    | false =>
      have e1n : (a.idx != b.idx) = true := by rw [bne, e1]; rfl
      have hf : Hid (Kt.same a b = false) := by unfold Kt.same; rw [e0, e1]; rfl
      go_enter Try.func42, Try.ntmps42
      go_wp2
      go_ret
      exact ⟨ret_bool hf.out.symm, ((Below.refl _ _).alloc (Nat.le_refl _) _).alloc (by simp) _⟩
    | true =>
      have e1n : (a.idx != b.idx) = false := by rw [bne, e1]; rfl
      have hsame : Kt.same a b = sameBy Ty.same a.args b.args := by unfold Kt.same; rw [e0, e1]; rfl
      by_cases hlen : a.args.length = b.args.length
      · have tl : ((a.args.length : Int) != (b.args.length : Int)) = false := by rw [hlen]; simp
        have h1 : a.args.length ≤ b.args.length := by omega
        have h2 : b.args.length ≤ a.args.length := by omega
        have HSame := Lib.hid hsame
        clear hlen hsame
        go_enter Try.func42, Try.ntmps42
        go_wp2
        obtain ⟨W2, hW2⟩ : ∃ W2, W2 = (w.alloc (.cells #[.string a.name, .slice A a.args.length cap, .int .i64 a.idx] 68)).alloc (.cells #[.string b.name, .slice A' b.args.length cap', .int .i64 b.idx] 68) := ⟨_, rfl⟩
        have hB2 : Below w.heap.size w W2 := by rw [hW2]; exact ((Below.refl _ _).alloc (Nat.le_refl _) _).alloc (by simp) _
        have k1 : Blk W2 w.heap.size 68 #[.string a.name, .slice A a.args.length cap, .int .i64 a.idx] := by rw [hW2]; exact (Blk.new w _ _).same (Below.heap_alloc _ _ _ (by simp))
        have k2 : Blk W2 (w.heap.size + 1) 68 #[.string b.name, .slice A' b.args.length cap', .int .i64 b.idx] := by rw [hW2]; have := Blk.new (w.alloc (.cells #[.string a.name, .slice A a.args.length cap, .int .i64 a.idx] 68)) 68 #[.string b.name, .slice A' b.args.length cap', .int .i64 b.idx]; simpa using this
        rw [← hW2]
        clear hW2
        have x1 : W2.cell? ⟨w.heap.size, 1, none⟩ = some (.slice A a.args.length cap) := (k1.cell 1).trans (by simp)
        have y1 : W2.cell? ⟨w.heap.size + 1, 1, none⟩ = some (.slice A' b.args.length cap') := (k2.cell 1).trans (by simp)
        clear k1 k2
        go_loopw [5] (fun i wr => ∃ k q : Nat, k ≤ a.args.length ∧ i = .int .i64 k ∧ Hid (sameBy Ty.same a.args b.args = sameBy Ty.same (a.args.drop k) (b.args.drop k)) ∧ wr = W2.drewN q) (fun i _ => a.args.length - (intOf i).toNat)
        case atStart => exact ⟨0, 0, Nat.zero_le _, rfl, rfl, rfl⟩
        case round =>
          obtain ⟨k, q, hk, rfl, HT, rfl⟩ := hrel
          by_cases hlt : k < a.args.length
          · have hlt' : k < b.args.length := by omega
            have hi0 : (0 : Int) ≤ (k : Int) := by omega
            have hi1 : (k : Int) < (a.args.length : Int) := by omega
            have hi2 : (k : Int) < (b.args.length : Int) := by omega
            obtain ⟨p, off, cs, F1, rfl, hb, hcs, hv, -⟩ := HX.out.get TyR_len hlt
            obtain ⟨p', off', ds, G1, rfl, hb', hds, hv', -⟩ := HY.out.get TyR_len hlt'
            have hcs := hcs.same (hB2.block p (HF.out p hb))
            have hds := hds.same (hB2.block p' (HG.out p' hb'))
            obtain rfl := TyR_form hv
            obtain rfl := TyR_form hv'
            have c0 := hcs 0 _ rfl
            have c1 := hcs 1 _ rfl
            have d0 := hds 0 _ rfl
            have d1 := hds 1 _ rfl
            simp only [Nat.add_zero] at c0 d0
            clear hcs hds hv hv' hb hb'
            have hd := sameBy_drop (f := Ty.same) a.args b.args k hlt hlt'
            cases hsm : Ty.same a.args[k] b.args[k] with
            | true =>
              rw [hsm, Bool.true_and] at hd
              have HT2 : Hid (sameBy Ty.same a.args b.args = sameBy Ty.same (a.args.drop (k + 1)) (b.args.drop (k + 1))) := HT.out.trans hd
              have he := (Ty.same_iff _ _).1 hsm
              have t0 : (a.args[k].d == b.args[k].d) = true := by rw [he]; simp
              have t1 : (a.args[k].i == b.args[k].i) = true := by rw [he]; simp
              clear hd hsm he
              go_wp2_with fail
              go_quiet (fail)
              go_wp2
              go_roundw
              case rel => exact ⟨k + 1, _, by omega, by go_num, HT2, rfl⟩
              case measure => simp [intOf]; omega
            | false =>
              rw [hsm, Bool.false_and] at hd
              have hf := Lib.hid (HSame.out.trans (HT.out.trans hd))
              have HB3 := Lib.hid (fun n => below_drewN (below_drewN hB2 q) n)
              clear hd
              unfold Ty.same at hsm
              cases t0 : (a.args[k].d == b.args[k].d) with
              | true =>
                have t1 : (a.args[k].i == b.args[k].i) = false := by rw [t0, Bool.true_and] at hsm; exact hsm
                clear hsm
                go_wp2_with fail
                go_quiet (fail)
                go_wp2
                go_ret
                exact ⟨ret_bool hf.out.symm, HB3.out _⟩
              | false =>
                clear hsm
                go_wp2_with fail
                go_quiet (fail)
                go_wp2
                go_ret
                exact ⟨ret_bool hf.out.symm, HB3.out _⟩
          · have hT := HT.out
            rw [List.drop_of_length_le (by omega), List.drop_of_length_le (by omega)] at hT
            have hf : Hid (Kt.same a b = true) := HSame.out.trans hT
            have HB3 := Lib.hid (below_drewN hB2 q)
            clear hT
            go_wp2
            go_ret
            exact ⟨ret_bool hf.out.symm, HB3.out⟩
      · have tl : ((a.args.length : Int) != (b.args.length : Int)) = true := by rw [bne_iff_ne]; omega
        have hf := Lib.hid (hsame.trans (sameBy_len_false (f := Ty.same) hlen))
        clear hlen hsame
        go_enter Try.func42, Try.ntmps42
        go_wp2
        go_ret
        exact ⟨ret_bool hf.out.symm, ((Below.refl _ _).alloc (Nat.le_refl _) _).alloc (by simp) _⟩

set_option maxRecDepth 100000 in
set_option maxHeartbeats 1600000 in
theorem sameCtor_closure (a b : Kt) (w : World) (cs ds : List Value) (F G : List Nat) (hv : KtR w a cs F) (hv' : KtR w b ds G) (hF : Under w.heap.size F) (hG : Under w.heap.size G) :
    Calls Try.prog 44 #[.agg cs.toArray, .agg ds.toArray] w fun e w' => e = .returned (.bool (Kt.same a b)) ∧ Below w.heap.size w w' := by
  obtain ⟨kv, rfl, ha, hs⟩ := hv
  obtain ⟨kv', rfl, ha', hs'⟩ := hv'
  have HX := Lib.hid ha
  have HY := Lib.hid ha'
  obtain ⟨A, cap, rfl, hc1, hc2⟩ := ha.form
  obtain ⟨A', cap', rfl, hc3, hc4⟩ := ha'.form
  clear ha ha'
  cases e0 : (a.name.toList == b.name.toList) with
  | false =>
    have hf : Hid (Kt.same a b = false) := by unfold Kt.same; rw [e0]; rfl
    go_enter Try.func44, Try.ntmps44
    go_wp2
    go_ret
    exact ⟨ret_bool hf.out.symm, ((Below.refl _ _).alloc (Nat.le_refl _) _).alloc (by simp) _⟩
  | true =>
    have hsame : Kt.same a b = (sameBy Ty.same a.args b.args && (a.idx == b.idx)) := by unfold Kt.same; rw [e0, Bool.true_and, Bool.and_comm]
    have HSame := Lib.hid hsame
    clear hsame
    have HF := Lib.hid hF
    have HG := Lib.hid hG
    clear hF hG
    go_enter Try.func44, Try.ntmps44
    go_wp2_with fail
    obtain ⟨W2, hW2⟩ : ∃ W2, W2 = (w.alloc (.cells #[.string a.name, .slice A a.args.length cap, .int .i64 a.idx] 68)).alloc (.cells #[.string b.name, .slice A' b.args.length cap', .int .i64 b.idx] 68) := ⟨_, rfl⟩
    have hB2 : Below w.heap.size w W2 := by rw [hW2]; exact ((Below.refl _ _).alloc (Nat.le_refl _) _).alloc (by simp) _
    have k1 : Blk W2 w.heap.size 68 #[.string a.name, .slice A a.args.length cap, .int .i64 a.idx] := by rw [hW2]; exact (Blk.new w _ _).same (Below.heap_alloc _ _ _ (by simp))
    have k2 : Blk W2 (w.heap.size + 1) 68 #[.string b.name, .slice A' b.args.length cap', .int .i64 b.idx] := by rw [hW2]; have := Blk.new (w.alloc (.cells #[.string a.name, .slice A a.args.length cap, .int .i64 a.idx] 68)) 68 #[.string b.name, .slice A' b.args.length cap', .int .i64 b.idx]; simpa using this
    rw [← hW2]
    clear hW2
    have x2 : W2.cell? ⟨w.heap.size, 2, none⟩ = some (.int .i64 a.idx) := (k1.cell 2).trans (by simp)
    have y2 : W2.cell? ⟨w.heap.size + 1, 2, none⟩ = some (.int .i64 b.idx) := (k2.cell 2).trans (by simp)
    clear k1 k2
    refine (Equal_Ty a.args b.args W2 F G _ _ (ArrTy.below HX.out hB2 HF.out) (ArrTy.below HY.out hB2 HG.out)).mono ?_
    rintro e w' ⟨rfl, q, rfl⟩
    have hB3 := Lib.hid (below_drewN hB2 q)
    cases e2 : sameBy Ty.same a.args b.args with
    | false =>
      have hf : Hid (Kt.same a b = false) := by rw [HSame.out, e2]; rfl
      go_wp2
      go_ret
      exact ⟨ret_bool hf.out.symm, hB3.out⟩
    | true =>
      have hf : Hid (Kt.same a b = (a.idx == b.idx)) := by rw [HSame.out, e2]; rfl
      go_wp2
      go_ret
      exact ⟨ret_bool hf.out.symm, hB3.out⟩
end Go.Proofs.Ytddjhneoacnkgaa
