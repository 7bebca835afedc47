/-
  FnDepthOf: for every argument the law returns true. Conditions: none.
-/
import Derived.Test.YtgckkiencmickaaKAH
import Derived.Deep.RegionWith
import Derived.Deep.RegionHeld3
import Derived.BigQuiet
import Derived.Test.YtgckkiencmickaaRows
import Derived.ProofKit
import Derived.OpenShut
import Derived.ShutString
import Derived.ChangeOld
import Derived.Below

set_option linter.unusedVariables false
set_option linter.unusedSimpArgs false

namespace Go.Proofs.Ytgckkiencmickaa.fnDepthOf
open Go.RowKit

set_option maxRecDepth 100000 in
set_option maxHeartbeats 3200000 in
theorem walk {W : World} (x0 : List Int) (v0 : Value) (F0 : List Nat) (hR0 : Arr W (ByR W) x0 v0 F0) (hU0 : Under W.heap.size F0) (w : World) (hw : w = W) :
    Calls Try.prog 3 #[v0] w fun e w' => e = .returned (.bool true) ∧ Below w.heap.size w w' := by
  subst hw
  obtain ⟨A0, cap0, rfl, -, -⟩ := hR0.form
  have HR0 := Lib.hid hR0
  have HU0 := Lib.hid hU0
  clear hR0 hU0
  by_cases hlen : 1048576 < x0.length
  · have t0 : decide ((x0.length : Int) > 1048576) = true := decide_eq_true (by omega)
    go_enter Try.func3, Try.ntmps3
    go_wp2
    go_ret
    exact ⟨rfl, Below.refl _ _⟩
  have t0 : decide ((x0.length : Int) > 1048576) = false := decide_eq_false (by omega)
  go_enter Try.func3, Try.ntmps3
  go_wp2_with fail
  refine (spec_DrawDepthOf x0 w _ F0 HR0.out HU0.out).mono ?_
  rintro e w1 ⟨a, csa, FA, rfl, hb1, hpa, hfa, hna⟩
  obtain ⟨kva, rfl, haa⟩ := (VR_iff _ _ _).1 hpa
  obtain ⟨aA, acap, rfl, -, -⟩ := haa.form
  have HSZ : Hid (a.size ≤ 1048576) := by unfold nodes at hna; unfold Hid; omega
  have hkn : a.ks.length ≤ 1048576 := by rw [nodes_ks, V.sizes_eq] at hna; omega
  have hb2 : Below w1.heap.size w1 (w1.alloc (.cells #[.int .i64 a.c, .int .i64 a.n, .slice aA a.ks.length acap] 25)) := (Below.refl _ _).alloc (Nat.le_refl _) _
  have hB2 : Below w.heap.size w (w1.alloc (.cells #[.int .i64 a.c, .int .i64 a.n, .slice aA a.ks.length acap] 25)) := hb1.trans (hb2.mono hb1.size)
  have KA2 : Hid (Blk (w1.alloc (.cells #[.int .i64 a.c, .int .i64 a.n, .slice aA a.ks.length acap] 25)) w1.heap.size 25 #[.int .i64 a.c, .int .i64 a.n, .slice aA a.ks.length acap]) := Blk.new w1 _ _
  have HA2 := Lib.hid (hpa.below hb2 hfa.under)
  have UA2 : Hid (Under ((w1.alloc (.cells #[.int .i64 a.c, .int .i64 a.n, .slice aA a.ks.length acap] 25))).heap.size FA) := hfa.under.mono hb2.size
  clear hpa hfa hna haa hb1 hb2 HR0 HU0
  go_wp2_with fail
  obtain ⟨w2, hw2⟩ : ∃ X, X = (w1.alloc (.cells #[.int .i64 a.c, .int .i64 a.n, .slice aA a.ks.length acap] 25)) := ⟨_, rfl⟩
  rw [← hw2] at hB2 KA2 HA2 UA2 ⊢
  clear hw2
  have ca0 : w2.cell? ⟨w1.heap.size, 0, none⟩ = some (.int .i64 a.c) := (KA2.out.cell 0).trans (by simp)
  have ca1 : w2.cell? ⟨w1.heap.size, 1, none⟩ = some (.int .i64 a.n) := (KA2.out.cell 1).trans (by simp)
  have ca2 : w2.cell? ⟨w1.heap.size, 2, none⟩ = some (.slice aA a.ks.length acap) := (KA2.out.cell 2).trans (by simp)
  have la := KA2.out.lt
  go_wp2_with fail
  clear ca0 ca1 ca2 la
  refine (impl_DepthOf a w2 _ FA HA2.out UA2.out HSZ.out).mono ?_
  rintro e w3 ⟨rfl, hb3⟩
  have hB3 := hB2.trans (hb3.mono hB2.size)
  have KA3 := Lib.hid (KA2.out.same (hb3.block _ KA2.out.lt))
  have HA3 := Lib.hid (HA2.out.below hb3 UA2.out)
  have UA3 := Lib.hid (UA2.out.mono hb3.size)
  clear hB2 KA2 HA2 UA2 hb3
  obtain ⟨N, hN⟩ : ∃ N, N = a.depth := ⟨_, rfl⟩
  have hNl : N ≤ 1048577 := by have := V.depth_le a; have := HSZ.out; omega
  rw [← hN]
  have HN := Lib.hid hN
  clear hN
  have hk3 : Arr w3 (VR w3) a.ks (.slice aA a.ks.length acap) FA := by
    obtain ⟨kv, e, h⟩ := (VR_iff _ _ _).1 HA3.out
    cases e
    exact h
  have HK3 := Lib.hid hk3
  clear hk3
  go_wp2
  go_loopw [5, 6] (fun m i wr => ∃ j d : Nat, j ≤ a.ks.length ∧ i = .int .i64 j ∧ m = .int .i64 d ∧ d ≤ 1048576 ∧ Hid (d = V.depths (a.ks.take j)) ∧ Below w3.heap.size w3 wr) (fun _ i _ => a.ks.length - (intOf i).toNat)
  case atStart => exact ⟨0, 0, Nat.zero_le _, rfl, rfl, by omega, by simp [Hid, V.depths], Below.refl _ _⟩
  case round =>
    obtain ⟨j, d, hj, rfl, rfl, hd, HD, hbr⟩ := hrel
    have KAr := Lib.hid (KA3.out.same (hbr.block _ KA3.out.lt))
    have ca0 : wr.cell? ⟨w1.heap.size, 0, none⟩ = some (.int .i64 a.c) := (KAr.out.cell 0).trans (by simp)
    have ca1 : wr.cell? ⟨w1.heap.size, 1, none⟩ = some (.int .i64 a.n) := (KAr.out.cell 1).trans (by simp)
    have ca2 : wr.cell? ⟨w1.heap.size, 2, none⟩ = some (.slice aA a.ks.length acap) := (KAr.out.cell 2).trans (by simp)
    have la := KAr.out.lt
    by_cases hlt : j < a.ks.length
    · obtain ⟨b, off, rfl⟩ := HK3.out.ptr (by omega)
      obtain ⟨A1, cap1, G, hbl, c0, c1, c2, HV, HG, hGF, -, -⟩ := ArrV.at HK3.out UA3.out hbr j hlt
      have hs := V.depths_take_succ a.ks j hlt
      have hks : V.sizes a.ks ≤ 1048576 := by have h1 := HSZ.out; have h2 := nodes_ks a; unfold nodes at h2; omega
      have hle : a.ks[j].depth ≤ 1048576 := by have := V.depth_le a.ks[j]; have := V.sizes_mem a.ks j hlt; omega
      have HZ : Hid (a.ks[j].size ≤ 1048576) := by have := V.sizes_mem a.ks j hlt; unfold Hid; omega
      have HS := Lib.hid hs
      clear hs hks
      go_wp2_with fail
      refine (impl_DepthOf a.ks[j] wr _ G (HV.out.below hbr HG.out) (HG.out.mono hbr.size) HZ.out).mono ?_
      rintro e w4 ⟨rfl, hb4⟩
      have hbr4 := hbr.trans (hb4.mono hbr.size)
      clear ca0 ca1 ca2 c0 c1 c2 la
      by_cases hgt : d < a.ks[j].depth
      · have HS2 : Hid (a.ks[j].depth = V.depths (a.ks.take (j + 1))) := by rw [HS.out, ← HD.out]; unfold Hid; omega
        clear HS
        generalize a.ks[j].depth = e at *
        go_wp2
        go_roundw
        case rel => exact ⟨j + 1, e, by omega, by go_num, rfl, hle, HS2, hbr4⟩
        case measure => simp [intOf]; omega
      · have HS2 : Hid (d = V.depths (a.ks.take (j + 1))) := by rw [HS.out, ← HD.out]; unfold Hid; omega
        clear HS
        generalize a.ks[j].depth = e at *
        go_wp2
        go_roundw
        case rel => exact ⟨j + 1, d, by omega, by go_num, rfl, hd, HS2, hbr4⟩
        case measure => simp [intOf]; omega
    · have hND : N = d + 1 := by
        have h := HD.out
        rw [List.take_of_length_le (by omega)] at h
        have h2 := HN.out
        have h3 : ∀ v : V, v.depth = V.depths v.ks + 1 := fun ⟨c, n, ks⟩ => by simp only [V.depth] <;> omega
        have h4 := h3 a
        omega
      have e1 : ((N : Int) == (N : Int)) = true := beq_self_eq_true _
      have e2 : ((N : Int) == (d : Int) + 1) = true := beq_iff_eq.2 (by omega)
      have hB4 := hB3.trans (hbr.mono hB3.size)
      have HAr := Lib.hid (HA3.out.below hbr UA3.out)
      have UAr := Lib.hid (UA3.out.mono hbr.size)
      have HND := Lib.hid hND
      clear hND
      go_wp2_with fail
      clear ca0 ca1 ca2 la
      refine (spec_DepthOf a wr _ FA HAr.out UAr.out HSZ.out).mono ?_
      rintro e w5 ⟨rfl, hb5⟩
      have hB5 := hB4.trans (hb5.mono hB4.size)
      rw [← HN.out]
      go_wp2
      go_ret
      exact ⟨rfl, hB5⟩
end Go.Proofs.Ytgckkiencmickaa.fnDepthOf

namespace Go.Proofs.Ytgckkiencmickaa.fnDepthOf
open Go.ChangeShapes Go.WideShapes Go.ChangeAt Go.RowKit
open Go.ChangeMaps (open_string shut_string)
set_option linter.unusedVariables false

theorem own : ownKnob Try.prog.godebug = none := by kernel_rfl
theorem laidOut : laidOutB Try.prog = true := by kernel_rfl

set_option maxRecDepth 100000 in
theorem lifted (os : Os) (started : os.Started) (H : Type) (enc : TypeId × Value → H) :
    ReturnsInHanded {} Try.checked os 3 .any (Rows.fnDepthOfSpec.pre6 enc Try.prog Try.f3 Rows.fnDepthOfRow.domain false) (Rows.fnDepthOfSpec.post enc Try.prog Try.f3 false true false false) := by
  refine returnsInHanded_of_change (C := Try.checked) own started (by kernel_rfl) Try.func3
    (ChangeSpec.witness6 (enc := enc) (C := Try.checked) false ⟨#[], #[.slice none 0 0], []⟩ 8 (by kernel_rfl) (by kernel_rfl) (by kernel_rfl) (by kernel_rfl)) ?_
  intro W base args ds gs before hval0 hW hcnd _
  have hval : ∀ (j : Nat) t v, Try.f3.params[j]? = some t → args[j]? = some v → Value.okWide Try.prog W .any base t v := hval0
  have hW' := hW
  obtain ⟨p, q, hA0, hV, rfl, hfz, hnd⟩ := hW
  have hA : DataW.TrodAll enc Try.prog W 0 (fun _ => true) true Try.f3.params.toList args.toList ds p := hA0
  rw [Try.params3] at hA hval
  obtain ⟨v0, vs0, d0, ds0, p0, q0, hargs, rfl, rfl, h0, r0⟩ := trodAll_cons hA
  obtain ⟨rfl, rfl, rfl⟩ := trodAll_nil r0
  obtain rfl : args = #[v0] := by cases args; simp_all
  obtain ⟨rfl, rfl⟩ := trodVars_none hV
  have k0 := h0
  have lt0 : ∀ x ∈ p0, x.block < W.heap.size := by obtain ⟨m, hm⟩ := k0; exact DataW.trod_lt m _ _ _ hm
  obtain ⟨x0, F0, hR0, hU0⟩ := open_Bytes (hval 0 22 v0 rfl rfl) h0
  clear hA0 hval0
  refine (walk x0 v0 F0 hR0 hU0 W rfl).mono fun e W' ⟨he, bel⟩ => ?_
  subst he
  exact ⟨_, rfl, _, _, _, [], _, [], hW', trodAll_mk1 (shut_bool Try.underlying4 _), (trodAll_cons_mk (Below.trod laidOut (by kernel_rfl) (of_decide_eq_true (by kernel_rfl)) k0 bel lt0) trodAll_mk0), rfl, bel.frame _, fun h => by cases h⟩

set_option maxHeartbeats 4000000 in
theorem closed : joinedFacts Try.pinned.checked.prog 3 Try.f3 Rows.fnDepthOfSpec Rows.fnDepthOfRow = true := by
  unfold joinedFacts
  have key : ∀ a b : Bool, a = true → b = true → (a && b) = true := fun a b h1 h2 => by rw [h1, h2]; rfl
  repeat' (with_reducible refine key _ _ ?_ ?_)
  all_goals as_aux_lemma => kernel_rfl

theorem over : Rows.fnDepthOfRow.holds Try.pinned (OpenSpec.ofChange Rows.fnDepthOfSpec) :=
  OpenClaim.holds_of_wide 3 Try.f3 rfl rfl rfl rfl rfl rfl rfl ⟨rfl, rfl, rfl, rfl, rfl⟩ rfl rfl rfl rfl rfl (by kernel_rfl) Try.func3 closed
    (of_decide_eq_true (by kernel_rfl)) (by unfold Func.isWrapper; first | (rw [if_pos (by decide +kernel)]; kernel_rfl) | (rw [if_neg (by decide +kernel)]; exact ⟨rfl, rfl⟩))
    (fun os started H enc _ => lifted os started H enc)

theorem proved : Rows.FnDepthOfSaid := over
end Go.Proofs.Ytgckkiencmickaa.fnDepthOf
