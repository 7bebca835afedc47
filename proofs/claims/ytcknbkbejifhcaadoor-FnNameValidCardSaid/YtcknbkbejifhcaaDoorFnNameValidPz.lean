/-
  FnNameValid: for every argument the law returns true; the card. Conditions: the listed package-level variables hold what the card ties to the program's text.
-/
import Derived.Test.YtcknbkbejifhcaaDoorFnNameValidPc
import Derived.Test.YtcknbkbejifhcaaDoorFnNameValidPa
import Derived.Deep.RegionWith
import Derived.Deep.RegionHeld3
import Derived.BigQuiet
import Derived.Test.YtcknbkbejifhcaaDoorRows
import Derived.Test.YtcknbkbejifhcaaDoorCards
import Derived.Test.YtcknbkbejifhcaaDoorTie
import Derived.ProofKit
import Derived.LaidMore
import Derived.OpenShut
import Derived.ShutString
import Derived.ChangeOld
import Derived.Below
import Derived.SevenTiedAt

set_option linter.unusedVariables false
set_option linter.unusedSimpArgs false

namespace Go.Proofs.YtcknbkbejifhcaaDoor.fnNameValid
open Go.RowKit

def nvW (s : ByteArray) : List Dt := [⟨⟨#[90]⟩, [⟨s, [], 0⟩]⟩]
def nvL : List ByteArray := [⟨#[78, 105, 108]⟩, ⟨#[67]⟩, ⟨#[67, 111, 110, 115]⟩, ⟨#[]⟩, ⟨#[110, 105, 108]⟩, ⟨#[84, 111, 111, 108, 111, 110, 103]⟩, ⟨#[78, 49]⟩, ⟨#[78, 73]⟩]
set_option maxRecDepth 100000 in
theorem nv_fine : ∀ s ∈ nvL, worldOk (nvW s) = nameOk s.data.toList ∧ (nameOk s.data.toList = true → textT (nvW s) = 90 :: 61 :: tl s) ∧ s.size ≤ 10 := by decide +kernel
/-- a name of a constructor that is drawn -/
def DrewName (w : World) (e : Ending) (w' : World) : Prop := ∃ s ∈ nvL, e = .returned (.string s) ∧ Below w.heap.size w w'
set_option maxRecDepth 100000 in
set_option maxHeartbeats 1600000 in
theorem spec_DrawNameValid (bs : List Int) (w : World) (v : Value) (F : List Nat) (hx : Arr w (ByR w) bs v F) (hf : Under w.heap.size F) :
    Calls Tryd.prog 7 #[v] w (DrewName w) := by
  have HX := Lib.hid hx
  have HU := Lib.hid hf
  clear hx hf
  go_enter Tryd.func7, Tryd.ntmps7
  go_wp2_with fail
  refine (spec_l17Open bs w v F HX.out HU.out).mono ?_
  rintro e w2 ⟨g, rfl, hge, hb2, hR2⟩
  have HR2 := Lib.hid hR2
  clear hR2 HX HU
  go_wp2_with fail
  refine (of_lit nvL (by decide) (by decide) 0 g w2 HR2.out (by omega)).mono ?_
  rintro e w3 ⟨s, hs, rfl, hR3, hC3⟩
  have HFin : Hid (DrewName w (.returned (.string s)) w3) := ⟨s, hs, rfl, hb2.trans (hC3.low hge hb2.size)⟩
  clear hR3 hC3 hs
  go_wp2
  go_ret
  exact HFin.out
set_option maxRecDepth 100000 in
set_option maxHeartbeats 1600000 in
theorem nv_arr (s : ByteArray) (hs : s.size ≤ 10) (w2 : World) : ∃ F, Arr ((w2.alloc (.cells #[.string s, .slice none 0 0, .int .i64 0] 27)).alloc (.cells #[.string ⟨#[90]⟩, .slice (some ⟨w2.heap.size, 0, none⟩) 1 1] 30)) (DtR ((w2.alloc (.cells #[.string s, .slice none 0 0, .int .i64 0] 27)).alloc (.cells #[.string ⟨#[90]⟩, .slice (some ⟨w2.heap.size, 0, none⟩) 1 1] 30))) (nvW s) (.slice (some ⟨w2.heap.size + 1, 0, none⟩) 1 1) F ∧ Under ((w2.alloc (.cells #[.string s, .slice none 0 0, .int .i64 0] 27)).alloc (.cells #[.string ⟨#[90]⟩, .slice (some ⟨w2.heap.size, 0, none⟩) 1 1] 30)).heap.size F := by
  have kc : Blk ((w2.alloc (.cells #[.string s, .slice none 0 0, .int .i64 0] 27)).alloc (.cells #[.string ⟨#[90]⟩, .slice (some ⟨w2.heap.size, 0, none⟩) 1 1] 30)) w2.heap.size 27 #[.string s, .slice none 0 0, .int .i64 0] := (Blk.new w2 _ _).same (Below.heap_alloc _ _ _ (by simp))
  have kd : Blk ((w2.alloc (.cells #[.string s, .slice none 0 0, .int .i64 0] 27)).alloc (.cells #[.string ⟨#[90]⟩, .slice (some ⟨w2.heap.size, 0, none⟩) 1 1] 30)) (w2.heap.size + 1) 30 #[.string ⟨#[90]⟩, .slice (some ⟨w2.heap.size, 0, none⟩) 1 1] := by
    have h := Blk.new (w2.alloc (.cells #[.string s, .slice none 0 0, .int .i64 0] 27)) 30 #[.string ⟨#[90]⟩, .slice (some ⟨w2.heap.size, 0, none⟩) 1 1]
    rw [World.size_alloc] at h; exact h
  have hsz : ((w2.alloc (.cells #[.string s, .slice none 0 0, .int .i64 0] 27)).alloc (.cells #[.string ⟨#[90]⟩, .slice (some ⟨w2.heap.size, 0, none⟩) 1 1] 30)).heap.size = w2.heap.size + 2 := by simp
  refine ⟨[w2.heap.size + 1, w2.heap.size], ⟨_, 1, rfl, Nat.le_refl _, by simp [maxLen], .inr ⟨w2.heap.size + 1, 0, [.string ⟨#[90]⟩, .slice (some ⟨w2.heap.size, 0, none⟩) 1 1], [w2.heap.size], rfl, ?_, ?_, rfl⟩⟩, fun b hb => ?_⟩
  · exact CellsAt.cons ((kd.cell 0).trans (by simp)) (CellsAt.cons ((kd.cell 1).trans (by simp)) (CellsAt.nil _ _ _))
  · refine Flat.one ⟨.slice (some ⟨w2.heap.size, 0, none⟩) 1 1, rfl, ⟨_, 1, rfl, Nat.le_refl _, by simp [maxLen], .inr ⟨w2.heap.size, 0, [.string s, .slice none 0 0, .int .i64 0], [], rfl, ?_, ?_, rfl⟩⟩, (by show (ByteArray.size ⟨#[90]⟩) ≤ 9223372036854775807; decide)⟩
    · exact CellsAt.cons ((kc.cell 0).trans (by simp)) (CellsAt.cons ((kc.cell 1).trans (by simp)) (CellsAt.cons ((kc.cell 2).trans (by simp)) (CellsAt.nil _ _ _)))
    · exact Flat.one ⟨.slice none 0 0, rfl, Arr.nil, by show s.size ≤ _; omega⟩
  · rw [hsz]
    simp only [List.mem_cons, List.not_mem_nil, or_false] at hb
    omega
set_option maxRecDepth 100000 in
set_option maxHeartbeats 1600000 in
theorem walk {W : World} (x0 : List Int) (v0 : Value) (F0 : List Nat) (hR0 : Arr W (ByR W) x0 v0 F0) (hU0 : Under W.heap.size F0) (w : World) (hw : w = W) :
    Calls Tryd.prog 3 #[v0] w fun e w' => e = .returned (.bool true) ∧ Below w.heap.size w w' := by
  subst hw
  obtain ⟨A0, cap0, rfl, -, -⟩ := hR0.form
  have HR0 := Lib.hid hR0
  have HU0 := Lib.hid hU0
  clear hR0 hU0
  by_cases hlen : 1048576 < x0.length
  · have t0 : decide ((x0.length : Int) > 1048576) = true := decide_eq_true (by omega)
    go_enter Tryd.func3, Tryd.ntmps3
    go_wp2
    go_ret
    exact ⟨rfl, Below.refl _ _⟩
  have t0 : decide ((x0.length : Int) > 1048576) = false := decide_eq_false (by omega)
  clear hlen
  go_enter Tryd.func3, Tryd.ntmps3
  go_wp2_with fail
  refine (spec_DrawNameValid x0 w _ F0 HR0.out HU0.out).mono ?_
  rintro e w1 ⟨s, hs, rfl, hb1⟩
  obtain ⟨f1, f2, hsz⟩ := nv_fine s hs
  have HF1 := Lib.hid f1
  have HF2 := Lib.hid f2
  have hml : s.size ≤ maxLen := by unfold maxLen; omega
  clear hs f1 f2 HR0 HU0
  go_wp2_with fail
  refine (impl_NameValid s w1 hml).mono ?_
  rintro e w2 ⟨rfl, hw2⟩
  have hb2 : Below w1.heap.size w1 w2 := by rw [← hw2]; exact Below.refl _ _
  clear hw2
  have hB2 := hb1.trans (hb2.mono hb1.size)
  have hE : Below w2.heap.size w2 ((w2.alloc (.cells #[.string s, .slice none 0 0, .int .i64 0] 27)).alloc (.cells #[.string ⟨#[90]⟩, .slice (some ⟨w2.heap.size, 0, none⟩) 1 1] 30)) := ((Below.refl _ _).alloc (Nat.le_refl _) _).alloc (by simp) _
  have hB3 : Below w.heap.size w ((w2.alloc (.cells #[.string s, .slice none 0 0, .int .i64 0] 27)).alloc (.cells #[.string ⟨#[90]⟩, .slice (some ⟨w2.heap.size, 0, none⟩) 1 1] 30)) := hB2.trans (hE.mono hB2.size)
  obtain ⟨FW, haW, huW⟩ := nv_arr s hsz w2
  have HAW := Lib.hid haW
  have HUW := Lib.hid huW
  clear haW huW hb1 hb2 hE
  go_wp2_with fail
  generalize ((w2.alloc (.cells #[.string s, .slice none 0 0, .int .i64 0] 27)).alloc (.cells #[.string ⟨#[90]⟩, .slice (some ⟨w2.heap.size, 0, none⟩) 1 1] 30)) = w3 at *
  generalize w2.heap.size + 1 = kk at *
  refine (spec_NameValid s w3 hml).mono ?_
  rintro e w4 ⟨rfl, hw4⟩
  have hb4 : Below w3.heap.size w3 w4 := by rw [← hw4]; exact Below.refl _ _
  clear hw4
  have hB4 := hB3.trans (hb4.mono hB3.size)
  have HA4 : Hid (Arr w4 (DtR w4) (nvW s) (.slice (some ⟨kk, 0, none⟩) 1 1) FW) := ArrDt.below HAW.out hb4 HUW.out
  have HU4 : Hid (Under w4.heap.size FW) := HUW.out.mono hb4.size
  clear hB3 hb4 HAW HUW
  go_wp2_with fail
  refine (impl_WorldValid (nvW s) w4 _ FW HA4.out HU4.out).mono ?_
  rintro e w5 ⟨rfl, hb5⟩
  have hB5 := hB4.trans (hb5.mono hB4.size)
  have HA5 : Hid (Arr w5 (DtR w5) (nvW s) (.slice (some ⟨kk, 0, none⟩) 1 1) FW) := ArrDt.below HA4.out hb5 HU4.out
  have HU5 : Hid (Under w5.heap.size FW) := HU4.out.mono hb5.size
  rw [HF1.out]
  clear hB4 hb5 HA4 HU4
  cases q0 : nameOk s.data.toList with
  | false =>
    go_wp2
    go_ret
    exact ⟨rfl, hB5⟩
  | true =>
    have htx : fmtW (nvW s) = ⟨#[90, 61]⟩ ++ s := by
      unfold fmtW
      rw [if_pos (by rw [HF1.out]; exact q0), HF2.out q0]
      show bs ([90, 61] ++ tl s) = _
      rw [← bs_append, bs_tl]; rfl
    have HTX := Lib.hid htx
    have c1 : 2 + s.size ≤ 9223372036854775807 := by omega
    have c2 : ¬ 9223372036854775807 < 2 + s.size := by omega
    clear htx
    go_wp2_with fail
    refine (impl_FormatWorld (nvW s) w5 _ FW HA5.out HU5.out).mono ?_
    rintro e w6 ⟨rfl, hb6⟩
    have hB6 := hB5.trans (hb6.mono hB5.size)
    rw [HTX.out]
    go_wp2
    go_ret
    exact ⟨rfl, hB6⟩
end Go.Proofs.YtcknbkbejifhcaaDoor.fnNameValid

namespace Go.Proofs.YtcknbkbejifhcaaDoor.fnNameValid
open Go.ChangeShapes Go.WideShapes Go.ChangeAt Go.RowKit
open Go.ChangeMaps (open_string shut_string)
set_option linter.unusedVariables false

theorem own : ownKnob Tryd.prog.godebug = none := by kernel_rfl
theorem laidOut : laidOutB Tryd.prog = true := by kernel_rfl
theorem door_met (os : Os) (args : Array Value) : laidMetH Tryd.prog Rows.fnNameValidRow.laid ((World.doorLaid Tryd.prog 24 os).forCall (fun _ _ => 0) ⟨#[], args, []⟩).memory :=
  laidMetH_of_parts3 (fuel := 8) (laidMet_of_run' 8 (by kernel_rfl) (by kernel_rfl)) (by kernel_rfl) (by kernel_rfl)

set_option maxRecDepth 100000 in
theorem lifted (os : Os) (started : os.Started) (H : Type) (enc : TypeId × Value → H) :
    ReturnsInHanded {} Tryd.checked os 3 .any (fun w args => (Rows.fnNameValidSpec.pre enc Tryd.prog Tryd.f3 [] false w args ∧ laidMetH Tryd.prog Rows.fnNameValidRow.laid w) ∧ sizedMet enc Tryd.prog Tryd.f3 (OpenSpec.ofChange Rows.fnNameValidSpec) false w args)
      (Rows.fnNameValidSpec.post enc Tryd.prog Tryd.f3 false true false false) := by
  refine returnsInHanded_of_change_and (C := Tryd.checked) (X := fun w _ => laidMetH Tryd.prog Rows.fnNameValidRow.laid w) (fun _ _ _ hh h => h.of_heap hh) own started (by kernel_rfl) Tryd.func3
    (ChangeSpec.witness_shaped (enc := enc) (C := Tryd.checked) (os := os) (X := fun w _ => laidMetH Tryd.prog Rows.fnNameValidRow.laid w) false (World.doorLaid Tryd.prog 24 os) #[.slice none 0 0] 8 rfl (World.shaped_of_RefB (by kernel_rfl) (by kernel_rfl)) (by kernel_rfl) (by kernel_rfl) (by kernel_rfl) (door_met os _)) ?_
  intro W base args ds gs before hval0 hW _ _ _ _
  have hval : ∀ (j : Nat) t v, Tryd.f3.params[j]? = some t → args[j]? = some v → Value.okWide Tryd.prog W .any base t v := hval0
  have hW' := hW
  obtain ⟨p, q, hA0, hV, rfl, hfz, hnd⟩ := hW
  have hA : DataW.TrodAll enc Tryd.prog W 0 (fun _ => true) true Tryd.f3.params.toList args.toList ds p := hA0
  rw [Tryd.params3] at hA hval
  obtain ⟨v0, vs0, d0, ds0, p0, q0, hargs, rfl, rfl, h0, r0⟩ := trodAll_cons hA
  obtain ⟨rfl, rfl, rfl⟩ := trodAll_nil r0
  obtain rfl : args = #[v0] := by cases args; simp_all
  obtain ⟨rfl, rfl⟩ := trodVars_none hV
  have k0 := h0
  have lt0 : ∀ x ∈ p0, x.block < W.heap.size := by obtain ⟨m, hm⟩ := k0; exact DataW.trod_lt m _ _ _ hm
  obtain ⟨x0, F0, hR0, hU0⟩ := open_Bytes (hval 0 22 v0 rfl rfl) h0
  clear hA0 hval0
  refine (walk x0 v0 F0 hR0 hU0 W rfl).mono fun e W' ⟨he, bel⟩ => ?_
  subst he
  exact ⟨_, rfl, _, _, _, [], _, [], hW', trodAll_mk1 (shut_bool Tryd.underlying4 _), (trodAll_cons_mk (Below.trod laidOut (by kernel_rfl) (of_decide_eq_true (by kernel_rfl)) k0 bel lt0) trodAll_mk0), rfl, bel.frame _, fun h => by cases h⟩

theorem over : Rows.fnNameValidRow.holds Tryd.pinned (OpenSpec.ofChange Rows.fnNameValidSpec) :=
  OpenClaim.holds_of_wide 3 Tryd.f3 rfl rfl rfl rfl rfl rfl rfl ⟨rfl, rfl, rfl, rfl, rfl⟩ rfl rfl rfl rfl rfl (by kernel_rfl) Tryd.func3 (by kernel_rfl)
    (of_decide_eq_true (by kernel_rfl)) (by unfold Func.isWrapper; first | (rw [if_pos (by decide +kernel)]; kernel_rfl) | (rw [if_neg (by decide +kernel)]; exact ⟨rfl, rfl⟩))
    (fun os started H enc _ => lifted os started H enc)

theorem proved : Rows.FnNameValidCardSaid :=
  Claim7.holds_tied_plain_at .later _ _ _ _ _
    over (fun _ h => by cases h) (by kernel_rfl) (fun _ h => by cases h) fnNameValid_row_tie rfl ⟨rfl, rfl⟩ (by kernel_rfl) rfl
    (fun f fn hf hfn => by
      obtain rfl : f = 3 := Option.some.inj ((show Tryd.prog.funcNamed "loop.example/matchcompiler/laws.FnNameValid" = some 3 by kernel_rfl).symm.trans hf) |>.symm
      obtain rfl : fn = Tryd.f3 := (Option.some.inj (Tryd.func3.symm.trans hfn)).symm
      exact ⟨by kernel_rfl, fun j t ht => by
        rw [Tryd.params3] at ht
        have hm : t ∈ [22] := by simpa using Array.mem_of_getElem? ht
        have hall : ([22].all fun u => !Tryd.prog.wantsStandIn u) = true := by kernel_rfl
        exact (show Tryd.prog.wantsStandIn t = false by simpa using List.all_eq_true.1 hall t hm)⟩)
    (by kernel_rfl)
end Go.Proofs.YtcknbkbejifhcaaDoor.fnNameValid
