/-
  FnWorldPrefix: for every argument the law returns true. Conditions: none.
-/
import Derived.Test.YtbejcgknjnhdpaaFnWorldPrefixPc
import Derived.Test.YtbejcgknjnhdpaaFnWorldPrefixPb
import Derived.Deep.RegionWith
import Derived.Deep.RegionHeld3
import Derived.BigQuiet
import Derived.Test.YtbejcgknjnhdpaaRows
import Derived.ProofKit
import Derived.OpenShut
import Derived.ShutString
import Derived.ChangeOld
import Derived.Below

set_option linter.unusedVariables false
set_option linter.unusedSimpArgs false

namespace Go.Proofs.Ytbejcgknjnhdpaa.fnWorldPrefix
open Go.RowKit

def NoT (m : Nat) (l : List Ty) : Prop := ∀ a ∈ l, a.d ≠ (m : Int)
def NoK (m : Nat) (l : List Kt) : Prop := ∀ c ∈ l, NoT m c.args
def NoD (m : Nat) (l : List Dt) : Prop := ∀ x ∈ l, NoK m x.ctors
theorem NoT.snoc {m : Nat} {l : List Ty} {i : Nat} (h : NoT m (l.take i)) (hi : i < l.length) (hn : l[i].d ≠ (m : Int)) : NoT m (l.take (i + 1)) := by
  rw [take_snoc' l i hi]; intro a ha
  rcases List.mem_append.1 ha with h1 | h1
  · exact h a h1
  · rw [List.mem_singleton] at h1; rw [h1]; exact hn
theorem NoK.snoc {m : Nat} {l : List Kt} {i : Nat} (h : NoK m (l.take i)) (hi : i < l.length) (hn : NoT m l[i].args) : NoK m (l.take (i + 1)) := by
  rw [take_snoc' l i hi]; intro a ha
  rcases List.mem_append.1 ha with h1 | h1
  · exact h a h1
  · rw [List.mem_singleton] at h1; rw [h1]; exact hn
theorem NoD.snoc {m : Nat} {l : List Dt} {i : Nat} (h : NoD m (l.take i)) (hi : i < l.length) (hn : NoK m l[i].ctors) : NoD m (l.take (i + 1)) := by
  rw [take_snoc' l i hi]; intro a ha
  rcases List.mem_append.1 ha with h1 | h1
  · exact h a h1
  · rw [List.mem_singleton] at h1; rw [h1]; exact hn
theorem Arr.cut {α : Type} {w : World} {R : α → List Value → List Nat → Prop} {xs : List α} {A : Option Addr} {n cap : Nat} {F : List Nat} (h : Arr w R xs (.slice A n cap) F) (m : Nat) (hm : m ≤ xs.length) : ∃ G, Arr w R (xs.take m) (.slice A m cap) G ∧ ∀ b ∈ G, b ∈ F := by
  rcases Nat.eq_zero_or_pos m with rfl | h0
  · obtain ⟨A', cap', hv, h1, h2, h3⟩ := h
    cases hv
    exact ⟨[], ⟨_, _, rfl, by simp, h2, .inl ⟨rfl, rfl⟩⟩, fun b hb => by cases hb⟩
  · exact Arr.take h m hm h0
set_option maxRecDepth 100000 in
set_option maxHeartbeats 1600000 in
theorem walk {W : World} (x0 : List Int) (v0 : Value) (F0 : List Nat) (hR0 : Arr W (ByR W) x0 v0 F0) (hU0 : Under W.heap.size F0) (w : World) (hw : w = W) :
    Calls Try.prog 3 #[v0] w fun e w' => e = .returned (.bool true) ∧ Below w.heap.size w w' := by
  subst hw
  obtain ⟨A0, cap0, rfl, -, -⟩ := hR0.form
  have HR0 := Lib.hid hR0
  have HU0 := Lib.hid hU0
  clear hR0 hU0
  by_cases hlen : 1048576 < x0.length
  · have t0 : decide ((x0.length : Int) > 1048576) = true := decide_eq_true (by omega)
    go_enter Try.func3, Try.ntmps3
    go_wp2
    go_ret
    exact ⟨rfl, Below.refl _ _⟩
  have t0 : decide ((x0.length : Int) > 1048576) = false := decide_eq_false (by omega)
  go_enter Try.func3, Try.ntmps3
  go_wp2_with fail
  refine (spec_DrawWorldValid x0 w _ F0 HR0.out HU0.out).mono ?_
  rintro e w1 ⟨xs, v1, F1, rfl, hb1, ha1, hf1⟩
  have hB1 := hb1
  have HA1 := Lib.hid ha1
  have HU1 := Lib.hid hf1.under
  obtain ⟨A1, cap1, rfl, hc1, hc2⟩ := ha1.form
  clear ha1 hf1 hb1 HR0 HU0
  go_wp2_with fail
  refine (impl_WorldValid xs w1 _ F1 HA1.out HU1.out).mono ?_
  rintro e w2 ⟨rfl, hb2⟩
  have hB2 := hB1.trans (hb2.mono hB1.size)
  have HA2 : Hid (Arr w2 (DtR w2) xs (.slice A1 xs.length cap1) F1) := ArrDt.below HA1.out hb2 HU1.out
  have HU2 : Hid (Under w2.heap.size F1) := HU1.out.mono hb2.size
  clear hB1 HA1 HU1 hb2
  go_wp2_with fail
  refine (spec_WorldValid xs w2 _ F1 HA2.out HU2.out).mono ?_
  rintro e w3 ⟨rfl, hb3⟩
  have hB3 := hB2.trans (hb3.mono hB2.size)
  have HA3 : Hid (Arr w3 (DtR w3) xs (.slice A1 xs.length cap1) F1) := ArrDt.below HA2.out hb3 HU2.out
  have HU3 : Hid (Under w3.heap.size F1) := HU2.out.mono hb3.size
  clear hB2 HA2 HU2 hb3
  cases q0 : worldOk xs with
  | false =>
    go_wp2_with fail
    refine (spec_WorldValid xs w3 _ F1 HA3.out HU3.out).mono ?_
    rintro e w4 ⟨rfl, hb4⟩
    have hB4 := hB3.trans (hb4.mono hB3.size)
    go_wp2
    go_ret
    exact ⟨by simp [q0], hB4⟩
  | true =>
    by_cases hz : xs.length = 0
    · have t1 : ((xs.length : Int) == 0) = true := beq_iff_eq.2 (by omega)
      clear hz
      go_wp2_with fail
      refine (spec_WorldValid xs w3 _ F1 HA3.out HU3.out).mono ?_
      rintro e w4 ⟨rfl, hb4⟩
      have hB4 := hB3.trans (hb4.mono hB3.size)
      go_wp2
      go_ret
      exact ⟨by simp [q0], hB4⟩
    have t1 : ((xs.length : Int) == 0) = false := by rw [beq_eq_false_iff_ne]; omega
    obtain ⟨m, hm⟩ : ∃ m, xs.length = m + 1 := ⟨xs.length - 1, by omega⟩
    obtain ⟨b, off, rfl⟩ := HA3.out.ptr (by omega)
    have hxq : (xs.length : Int) - 1 = (m : Int) := by omega
    have hwq : IntKind.i64.wrap (m : Int) = (m : Int) := IntWalk.i64_in _ (by omega)
    have hq0 : (0 : Int) ≤ (m : Int) := by omega
    have hq1 : (m : Int) ≤ (xs.length : Int) := by omega
    have hq2 : m ≤ cap1 := by omega
    have hq3 : m < xs.length := by omega
    obtain ⟨G, hG, hGF⟩ := Arr.cut HA3.out m (by omega)
    have HG := Lib.hid hG
    have HUG := Lib.hid (HU3.out.sub hGF)
    have hyl : (xs.take m).length = m := by rw [List.length_take]; omega
    have HYL := Lib.hid hyl
    have HQ := Lib.hid q0
    have HM := Lib.hid hm
    clear hG hGF hyl q0 hz hm
    go_wp2
    go_loopw [6] (fun dv wr => ∃ d : Nat, d ≤ m ∧ dv = .int .i64 d ∧ Hid (NoD m (xs.take d)) ∧ Below w3.heap.size w3 wr) (fun dv _ => m - (intOf dv).toNat)
    case atStart => exact ⟨0, Nat.zero_le _, rfl, (fun a ha => by simp at ha), Below.refl _ _⟩
    case round =>
      obtain ⟨d, hd, rfl, HD, hB⟩ := hrel
      by_cases hdl : d < m
      · have hdx : d < xs.length := by omega
        have g1 : (0 : Int) ≤ (d : Int) := by omega
        have g2 : (d : Int) < (m : Int) := by omega
        have e1 : decide (d < m) = true := by simpa using hdl
        go_wp2
        obtain ⟨wo, hwo⟩ : ∃ wo : World, wo = wr := ⟨_, rfl⟩
        go_loopw [7] (fun kv ws => ∃ k : Nat, k ≤ xs[d].ctors.length ∧ kv = .int .i64 k ∧ Hid (NoK m (xs[d].ctors.take k)) ∧ Below w3.heap.size w3 ws) (fun kv _ => xs[d].ctors.length - (intOf kv).toNat)
        case atStart => exact ⟨0, Nat.zero_le _, rfl, (fun a ha => by simp at ha), hB⟩
        case round =>
          clear hwo hB
          obtain ⟨k, hk, rfl, HK, hB⟩ := hrel
          obtain ⟨Ai, capi, Gi, hbi, -, i1, HI, HGi, -, hci1, hci2⟩ := ArrDt.at HA3.out HU3.out hB d hdx
          by_cases hkl : k < xs[d].ctors.length
          · obtain ⟨bi, offi, rfl⟩ := HI.out.ptr (by omega)
            obtain ⟨Aj, capj, Gj, hbj, -, j1, -, HJ, HGj, -, hcj1, hcj2⟩ := ArrKt.at HI.out HGi.out hB k hkl
            have g3 : (0 : Int) ≤ (k : Int) := by omega
            have g4 : (k : Int) < (xs[d].ctors.length : Int) := by omega
            have e2 : decide (k < xs[d].ctors.length) = true := by simpa using hkl
            go_wp2
            obtain ⟨wo, hwo⟩ : ∃ wo : World, wo = wr := ⟨_, rfl⟩
            go_loopw [9] (fun iv ws => ∃ i : Nat, i ≤ xs[d].ctors[k].args.length ∧ iv = .int .i64 i ∧ Hid (NoT m (xs[d].ctors[k].args.take i)) ∧ Below w3.heap.size w3 ws) (fun iv _ => xs[d].ctors[k].args.length - (intOf iv).toNat)
            case atStart => exact ⟨0, Nat.zero_le _, rfl, (fun a ha => by simp at ha), hB⟩
            case round =>
              clear hwo hB i1 j1 hbi hbj
              obtain ⟨i, hi, rfl, HT, hB⟩ := hrel
              by_cases hil : i < xs[d].ctors[k].args.length
              · obtain ⟨bj, offj, rfl⟩ := HJ.out.ptr (by omega)
                obtain ⟨hbt, y0, y1⟩ := ArrTy.at HJ.out HGj.out hB i hil
                have g5 : (0 : Int) ≤ (i : Int) := by omega
                have g6 : (i : Int) < (xs[d].ctors[k].args.length : Int) := by omega
                cases q1 : (xs[d].ctors[k].args[i].d == (m : Int)) with
                | true =>
                  have hno : worldOk (xs.take m) = false := prefix_no (x := xs[d]) (c := xs[d].ctors[k]) (a := xs[d].ctors[k].args[i]) (List.mem_take_iff_getElem.2 ⟨d, by omega, rfl⟩) (List.getElem_mem _) (List.getElem_mem _) (by rw [HYL.out]; exact beq_iff_eq.1 q1)
                  have HNO := Lib.hid hno
                  have hB3' := hB3.trans (hB.mono hB3.size)
                  clear hno y1
                  go_wp2_with fail
                  refine (impl_WorldValid (xs.take m) wr _ G (ArrDt.below HG.out hB HUG.out) (HUG.out.mono hB.size)).mono ?_
                  rintro e w4 ⟨rfl, hb4⟩
                  have hB4 := hB3'.trans (hb4.mono hB3'.size)
                  rw [HNO.out]
                  go_wp2
                  go_ret
                  exact ⟨rfl, hB4⟩
                | false =>
                  have HT2 := Lib.hid (HT.out.snoc hil (by rw [beq_eq_false_iff_ne] at q1; exact q1))
                  go_wp2
                  go_roundw
                  case rel => exact ⟨i + 1, hil, by go_num, HT2, hB⟩
                  case measure => (simp [intOf] <;> omega)
              · have HK2 := Lib.hid (HK.out.snoc hkl (by have h := HT.out; rwa [List.take_of_length_le (by omega)] at h))
                go_wp2
                go_roundw
                case rel => exact ⟨k + 1, hkl, by go_num, HK2, hB⟩
                case measure => (simp [intOf] <;> omega)
          · have HD2 := Lib.hid (HD.out.snoc hdx (by have h := HK.out; rwa [List.take_of_length_le (by omega)] at h))
            go_wp2
            go_roundw
            case rel => exact ⟨d + 1, hdl, by go_num, HD2, hB⟩
            case measure => (simp [intOf] <;> omega)
      · have HYES : Hid (worldOk (xs.take m) = true) := by
          have h := prefix_yes HQ.out (by have := HM.out; omega)
          rw [show xs.length - 1 = m by have := HM.out; omega] at h
          refine h ?_
          have h2 := HD.out
          rw [show d = m by omega] at h2
          exact h2
        have hB3' := hB3.trans (hB.mono hB3.size)
        go_wp2_with fail
        refine (impl_WorldValid (xs.take m) wr _ G (ArrDt.below HG.out hB HUG.out) (HUG.out.mono hB.size)).mono ?_
        rintro e w4 ⟨rfl, hb4⟩
        have hB4 := hB3'.trans (hb4.mono hB3'.size)
        go_wp2
        go_ret
        exact ⟨ret_bool HYES.out, hB4⟩
end Go.Proofs.Ytbejcgknjnhdpaa.fnWorldPrefix

namespace Go.Proofs.Ytbejcgknjnhdpaa.fnWorldPrefix
open Go.ChangeShapes Go.WideShapes Go.ChangeAt Go.RowKit
open Go.ChangeMaps (open_string shut_string)
set_option linter.unusedVariables false

theorem own : ownKnob Try.prog.godebug = none := by kernel_rfl
theorem laidOut : laidOutB Try.prog = true := by kernel_rfl

set_option maxRecDepth 100000 in
theorem lifted (os : Os) (started : os.Started) (H : Type) (enc : TypeId × Value → H) :
    ReturnsInHanded {} Try.checked os 3 .any (Rows.fnWorldPrefixSpec.pre6 enc Try.prog Try.f3 Rows.fnWorldPrefixRow.domain false) (Rows.fnWorldPrefixSpec.post enc Try.prog Try.f3 false true false false) := by
  refine returnsInHanded_of_change (C := Try.checked) own started (by kernel_rfl) Try.func3
    (ChangeSpec.witness6 (enc := enc) (C := Try.checked) false ⟨#[], #[.slice none 0 0], []⟩ 8 (by kernel_rfl) (by kernel_rfl) (by kernel_rfl) (by kernel_rfl)) ?_
  intro W base args ds gs before hval0 hW hcnd _
  have hval : ∀ (j : Nat) t v, Try.f3.params[j]? = some t → args[j]? = some v → Value.okWide Try.prog W .any base t v := hval0
  have hW' := hW
  obtain ⟨p, q, hA0, hV, rfl, hfz, hnd⟩ := hW
  have hA : DataW.TrodAll enc Try.prog W 0 (fun _ => true) true Try.f3.params.toList args.toList ds p := hA0
  rw [Try.params3] at hA hval
  obtain ⟨v0, vs0, d0, ds0, p0, q0, hargs, rfl, rfl, h0, r0⟩ := trodAll_cons hA
  obtain ⟨rfl, rfl, rfl⟩ := trodAll_nil r0
  obtain rfl : args = #[v0] := by cases args; simp_all
  obtain ⟨rfl, rfl⟩ := trodVars_none hV
  have k0 := h0
  have lt0 : ∀ x ∈ p0, x.block < W.heap.size := by obtain ⟨m, hm⟩ := k0; exact DataW.trod_lt m _ _ _ hm
  obtain ⟨x0, F0, hR0, hU0⟩ := open_Bytes (hval 0 22 v0 rfl rfl) h0
  clear hA0 hval0
  refine (walk x0 v0 F0 hR0 hU0 W rfl).mono fun e W' ⟨he, bel⟩ => ?_
  subst he
  exact ⟨_, rfl, _, _, _, [], _, [], hW', trodAll_mk1 (shut_bool Try.underlying4 _), (trodAll_cons_mk (Below.trod laidOut (by kernel_rfl) (of_decide_eq_true (by kernel_rfl)) k0 bel lt0) trodAll_mk0), rfl, bel.frame _, fun h => by cases h⟩

theorem over : Rows.fnWorldPrefixRow.holds Try.pinned (OpenSpec.ofChange Rows.fnWorldPrefixSpec) :=
  OpenClaim.holds_of_wide 3 Try.f3 rfl rfl rfl rfl rfl rfl rfl ⟨rfl, rfl, rfl, rfl, rfl⟩ rfl rfl rfl rfl rfl (by kernel_rfl) Try.func3 (by kernel_rfl)
    (of_decide_eq_true (by kernel_rfl)) (by unfold Func.isWrapper; first | (rw [if_pos (by decide +kernel)]; kernel_rfl) | (rw [if_neg (by decide +kernel)]; exact ⟨rfl, rfl⟩))
    (fun os started H enc _ => lifted os started H enc)

theorem proved : Rows.FnWorldPrefixSaid := over
end Go.Proofs.Ytbejcgknjnhdpaa.fnWorldPrefix
