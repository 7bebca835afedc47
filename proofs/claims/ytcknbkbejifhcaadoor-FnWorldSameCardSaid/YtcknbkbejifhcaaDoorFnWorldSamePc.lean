/-
  Lemmas and contracts of functions: l1Mutate of the reference: a copy of a world, sometimes made invalid. Conditions: its lists are short; the reader has given no more than 900000 numbers. Drawn worlds and types. Conditions: none. The texts of worlds, written by strings.Join: plain laws. Conditions: none. strings.Join: its contract at this program (laid by the kit's tool), and in the words of these texts. Conditions: the lists and the result are short. ctorOk of the program: a constructor within the limits, by slices.ContainsFunc and a closure. Conditions: none. A look-up in a map whose elements are booleans, as an equation. Conditions: none. WorldValid of the program, with its two maps. Conditions: none. TypeValid of the reference and of the program. Conditions: none. Texts of types: strconv.Itoa at one digit, typeText, FormatType of both. Conditions: none. listed, worldText, FormatWorld of the program. Conditions: none. Texts of valid types tell the types apart. Conditions: the world is valid. Two valid worlds with the same text are equal. Conditions: none. Two valid worlds with the same text are equal: whole texts. Conditions: none. slices.Equal at types: equality of lists of types. Conditions: none. Equality of constructors: the reference's l1SameCtor and the closure in the program's WorldSame. Conditions: none. WorldSame of the program: equality of worlds, by slices.EqualFunc and two closures. Conditions: none. WorldSame of the reference: equality of worlds, by two loops. Conditions: none. What comes in as an argument (slices of structs, trees) lies in memory as the plain data say. Conditions: none.
-/
import Derived.Test.YtcknbkbejifhcaaDoorFnWorldSamePb
import Derived.Test.YtcknbkbejifhcaaDoorFnWorldSamePa
import Derived.Deep.RegionWith
import Derived.Lib.Join
import Derived.Test.YtcknbkbejifhcaaDoorChecked
import Derived.Shelf.Strings.Builder1
import Derived.Shelf.Strings.Builder2
import Derived.Shelf.Strings.OnBuilder
import Derived.Laws.EntriesVeiled
import Derived.Maps.OwnOps
import Derived.Maps.Views
import Derived.Maps.Own
import Derived.StringKeys
import Derived.IntWalk
import Derived.BigQuiet
import Derived.Deep.QuietTactic
import Derived.Deep.RegionHeld3
import Derived.ProofKit
import Derived.ChangeArms
import Derived.Deep.Fields

set_option linter.unusedVariables false
set_option linter.unusedSimpArgs false

namespace Go.Proofs.YtcknbkbejifhcaaDoor
open Go.RowKit

def LitN (w : World) (b : Nat) (ls : List Int) : Prop := b < w.heap.size ∧ Arr w (NatR w) ls (.slice (some ⟨b, 0, none⟩) ls.length ls.length) [b]
theorem LitN.new (w : World) (ls : List Int) (hl : ls.length ≤ 1000) : LitN (w.alloc (.cells (ls.map (Value.int .i64)).toArray 3)) w.heap.size ls := ⟨by simp, lit_nums w ls hl⟩
theorem LitN.chg {w w' : World} {b : Nat} {ls : List Int} {F : List Nat} (h : LitN w b ls) (hc : Chg F w w') (hb : b ∉ F) : LitN w' b ls :=
  ⟨Nat.lt_of_lt_of_le h.1 hc.size, h.2.mono (hc.kept (fun x hx => by rw [List.mem_singleton.1 hx]; exact h.1) (fun x hx => by rw [List.mem_singleton.1 hx]; exact hb)) fun _ _ _ _ _ h => h⟩
theorem LitN.alloc {w : World} {b : Nat} {ls : List Int} (h : LitN w b ls) (o : Obj) : LitN (w.alloc o) b ls := h.chg (F := []) (.of_below ((Below.refl _ _).alloc (Nat.le_refl _) _)) (by simp)
theorem LitN.new2 (w : World) (o : Obj) (ls : List Int) (hl : ls.length ≤ 1000) : LitN ((w.alloc o).alloc (.cells (ls.map (Value.int .i64)).toArray 3)) (w.heap.size + 1) ls := by
  have h := LitN.new (w.alloc o) ls hl
  rwa [World.size_alloc] at h
theorem Chg.alloc {F : List Nat} {w w' : World} (h : Chg F w w') (o : Obj) : Chg F w (w'.alloc o) := h.step ((Below.refl _ _).alloc (Nat.le_refl _) _)
theorem num_at {w : World} {b : Nat} {ls : List Int} (hb : LitN w b ls) (hl1 : 1 ≤ ls.length) (hl2 : ls.length ≤ 1000) (p g : Nat) (h : Rd w g p) (hp : p ≤ 1000000) (hg : b ≠ g) :
    Calls Tryd.prog 55 #[.pointer (some ⟨g, 0, none⟩), .slice (some ⟨b, 0, none⟩) ls.length ls.length] w fun e w' => ∃ x, e = .returned (.int .i64 x) ∧ Rd w' g (p + 1) ∧ Chg [g] w w' := by
  refine (num_any ls hl1 hl2 p g w h hp _ _ hb.2 (fun x hx => by rw [List.mem_singleton.1 hx]; exact hb.1) (fun e => hg (List.mem_singleton.1 e).symm)).mono ?_
  rintro e w' ⟨x, -, rfl, hR, hC⟩
  exact ⟨x, rfl, hR, hC⟩
theorem Chg.undrewN {F : List Nat} {w w' : World} (h : Chg F w.drew w') : Chg F w w' := ⟨h.os, h.tape, h.output, h.size, h.block⟩

set_option maxRecDepth 100000 in
set_option maxHeartbeats 6400000 in
theorem spec_l1Mutate (p g : Nat) (w : World) (h : Rd w g p) (hp : p ≤ 900000) (xs : List Dt) (v : Value) (F : List Nat) (hx : Arr w (DtR w) xs v F) (hf : Under w.heap.size F) (h0 : 0 < xs.length) (hl : xs.length ≤ 99) (m : Nat) (hm : m ≤ 90) (hs : SmallW m xs) :
    Calls Tryd.prog 30 #[.pointer (some ⟨g, 0, none⟩), v] w (Mutd g p m xs w) := by
  have hgl := h.lt
  have HR0 := Lib.hid h
  have HCALL := Lib.hid (spec_l1Copy xs w v F hx hf (by omega) (hs.mono (by omega)))
  have HSM := Lib.hid hs
  have HMM := Lib.hid hm
  clear h hx hf hs hm
  obtain ⟨j0, hj, hj0, hj1, hj2⟩ := info_parts info_tyE
  have HJ := Lib.hid hj
  have HJ0 := Lib.hid hj0
  have HJ1 := Lib.hid hj1
  have HJ2 := Lib.hid hj2
  clear hj hj0 hj1 hj2
  obtain ⟨m0, hm, hm0, hm1, hm2⟩ := info_parts info_DtE
  have HM := Lib.hid hm
  have HM0 := Lib.hid hm0
  have HM1 := Lib.hid hm1
  have HM2 := Lib.hid hm2
  clear hm hm0 hm1 hm2
  go_enter Tryd.func30, Tryd.ntmps30
  go_wp2_with fail
  refine HCALL.out.mono ?_
  rintro e w1 ⟨v1, F1, rfl, hb1, ho1, hfr1, hfs1⟩
  have hCpy : Cpy g p xs v1 F1 w w1 := ⟨HR0.out.below hb1, Chg.of_below hb1, ho1, hfr1, fun b hb => by have := hfs1 b hb; omega, hgl⟩
  obtain ⟨A1, cap1, rfl, hc1, hc2⟩ := ho1.form
  obtain ⟨FF, ha1, -, -⟩ := hCpy.arr
  obtain ⟨b, off, rfl⟩ := ha1.ptr h0
  have HC1 := Lib.hid hCpy
  clear hCpy ho1 ha1 hb1 hfr1 hfs1 HCALL HR0
  go_wp2_with fail
  refine (pick_any xs.length p g w1 HC1.out.rd (by omega) h0 (by omega)).mono ?_
  rintro e w2 ⟨d, rfl, hd, hR2, hC2⟩
  have HC2 := Lib.hid (HC1.out.step hR2 hC2)
  clear hR2 hC2 HC1
  have g1 : (0 : Int) ≤ (d : Int) := by omega
  have g2 : (d : Int) < (xs.length : Int) := by omega
  obtain ⟨kA, kcap, F2, n0, k0, z0, hb, hbl, hk1, hk2, hdx, hF2, hname, hctors⟩ := HC2.out.data (p := p) h0 HSM.out hd
  clear n0 z0 hb hbl hdx hF2 hname hctors
  cases q0 : ((xs[d].ctors.length : Int) == 0) with
  | true =>
    have HFin := Lib.hid (HC2.out.done (p := p) h0 HSM.out (by omega))
    clear HC2
    go_wp2
    go_ret
    exact HFin.out
  | false =>
    have hk0 : 0 < xs[d].ctors.length := by rw [beq_eq_false_iff_ne] at q0; omega
    have e0 : (0 : Int) < (xs[d].ctors.length : Int) := by omega
    go_wp2_with fail
    refine (pick_any 30 (p + 1) g w2 HC2.out.rd (by omega) (by omega) (by omega)).mono ?_
    rintro e w3 ⟨r, rfl, hr, hR3, hC3⟩
    have HC3 := Lib.hid (HC2.out.step hR3 hC3)
    clear hR3 hC3 HC2 k0 hk1 hk2
    cases c0q : ((r : Int) == 0) with
    | true =>
      go_wp2_with fail
      refine (of_lit [⟨#[73]⟩, ⟨#[]⟩, ⟨#[97]⟩, ⟨#[76, 76]⟩, ⟨#[90]⟩] (by decide) (by decide) (p + 1 + 1) g w3 HC3.out.rd (by omega)).mono ?_
      rintro e w4 ⟨s, hs, rfl, hR4, hC4⟩
      have hsz : s.size ≤ 1000 := by
        have hall : ∀ x ∈ ([⟨#[73]⟩, ⟨#[]⟩, ⟨#[97]⟩, ⟨#[76, 76]⟩, ⟨#[90]⟩] : List ByteArray), x.size ≤ 1000 := by decide
        exact hall s hs
      have HC4 := Lib.hid (HC3.out.step hR4 hC4)
      clear hR4 hC4 HC3 hs
      obtain ⟨kA, kcap, F2, n0, k0, z0, hb, hbl, hk1, hk2, hdx, hF2, hname, hctors⟩ := HC4.out.data (p := p) h0 HSM.out hd
      have f0 := z0 (off + d * 2)
      have HFin := Lib.hid (hname s hsz (by omega))
      clear k0 z0 hb hk1 hk2 hdx hF2 hname hctors HC4
      go_wp2
      go_ret
      exact HFin.out
    | false =>
      cases c1q : ((r : Int) == 1) with
      | true =>
        obtain ⟨kA, kcap, F2, n0, k0, z0, hb, hbl, hk1, hk2, hdx, hF2, hname, hctors⟩ := HC3.out.data (p := p) h0 HSM.out hd
        have f0 : (w3.alloc (.cells #[] 27)).frozen? ⟨b, off + d * 2 + 1, none⟩ = false := (World.frozen?_of_block (a := ⟨b, off + d * 2 + 1, none⟩) (Below.heap_alloc _ _ _ hbl)).trans (z0 _)
        have y0 : (w3.alloc (.cells #[] 27)).cell? ⟨b, off + d * 2 + 1, none⟩ = some (.slice kA xs[d].ctors.length kcap) := (World.cell?_alloc_lt _ _ _ hbl).trans k0
        have HFin := Lib.hid (hctors 27 (by omega))
        clear n0 k0 z0 hb hk1 hk2 hdx hF2 hname hctors HC3
        go_wp2
        go_ret
        exact HFin.out
      | false =>
        cases c2q : ((r : Int) == 2) with
        | true =>
          have hCd := HC3.out.drew
          clear HC3
          obtain ⟨b2, off2, cap2, aA, acap, kc, hbb, hbg, hb2g, hbl, hb2l, hz2, c0, c1, c2, hown, hrow, hal, H2, H4, H3⟩ := hCd.ctor (p := p) h0 HSM.out hd hk0
          have HH := Lib.hid H2
          have hR3 := Lib.hid hCd.rd
          have f3 := hz2 (off2)
          clear c1 c2 hown hrow hal H2 H4 H3 hCd hz2
          go_wp2_with fail
          refine wp_region_B (S := fun w' => w'.cell? ⟨b, off + d * 2 + 1, none⟩ = some (.slice (some ⟨b2, off2, none⟩) xs[d].ctors.length cap2)) (T := fun _ => True) (d := 10) (by kernel_rfl) ?_
          generalize w3.drew = wd at *
          have hS1 : wd.cell? ⟨b, off + d * 2 + 1, none⟩ = some (.slice (some ⟨b2, off2, none⟩) xs[d].ctors.length cap2) := kc
          have hT1 : True := trivial
          refine wpAnyB_take (i := 0) (v := ?_) rfl (by decide) (by kernel_rfl) (by kernel_rfl) (by kernel_rfl) (fun _ _ _ h => h) (Or.inl ⟨by rfl, ?hy0⟩) hS1 (fun _ => hT1) ?_
          case hy0 => (intro W hSw; (try dsimp only at hSw); go_simp; try with_reducible rfl)
          (try simp only [Act.put, List.setIfInBounds_toArray, List.set_cons_zero, List.set_cons_succ])
          refine wpAnyB_take (i := 1) (v := ?_) rfl (by decide) (by kernel_rfl) (by kernel_rfl) (by kernel_rfl) (fun _ _ _ h => h) (Or.inl ⟨by rfl, ?hy1⟩) hS1 (fun _ => hT1) ?_
          case hy1 => (intro W hSw; (try dsimp only at hSw); go_simp; try with_reducible rfl)
          (try simp only [Act.put, List.setIfInBounds_toArray, List.set_cons_zero, List.set_cons_succ])
          refine wpAnyB_take (i := 2) (v := ?_) rfl (by decide) (by kernel_rfl) (by kernel_rfl) (by kernel_rfl) (fun _ _ _ h => h) (Or.inl ⟨by rfl, ?hy2⟩) hS1 (fun _ => hT1) ?_
          case hy2 => (intro W hSw; (try dsimp only at hSw); go_simp; try with_reducible rfl)
          (try simp only [Act.put, List.setIfInBounds_toArray, List.set_cons_zero, List.set_cons_succ])
          refine wpAnyB_take (i := 3) (v := ?_) rfl (by decide) (by kernel_rfl) (by kernel_rfl) (by kernel_rfl) (fun _ _ _ h => h) (Or.inl ⟨by rfl, ?hy3⟩) hS1 (fun _ => hT1) ?_
          case hy3 => (intro W hSw; (try dsimp only at hSw); go_simp; try with_reducible rfl)
          (try simp only [Act.put, List.setIfInBounds_toArray, List.set_cons_zero, List.set_cons_succ])
          refine wpAnyB_take (i := 4) (v := ?_) rfl (by decide) (by kernel_rfl) (by kernel_rfl) (by kernel_rfl) (fun _ _ _ h => h) (Or.inl ⟨by rfl, ?hy4⟩) hS1 (fun _ => hT1) ?_
          case hy4 => (intro W hSw; (try dsimp only at hSw); go_simp; try with_reducible rfl)
          (try simp only [Act.put, List.setIfInBounds_toArray, List.set_cons_zero, List.set_cons_succ])
          refine wpAnyB_take (i := 5) (v := ?_) rfl (by decide) (by kernel_rfl) (by kernel_rfl) (by kernel_rfl) (fun _ _ _ h => h) (Or.inl ⟨by rfl, ?hy5⟩) hS1 (fun _ => hT1) ?_
          case hy5 => (intro W hSw; (try dsimp only at hSw); go_simp; try with_reducible rfl)
          (try simp only [Act.put, List.setIfInBounds_toArray, List.set_cons_zero, List.set_cons_succ])
          refine wpAnyB_ready (rs := [6]) (by kernel_rfl) (by simp) ?_
          refine AllReadyB.cons rfl (fun K hK => ?_) AllReadyB.nil
          go_simp
          refine hK.out _ _ ((World.cell?_alloc_lt _ _ _ hbl).trans kc) (fun _ => trivial) ?_
          clear hK K
          (try simp only [Act.put, List.setIfInBounds_toArray, List.set_cons_zero, List.set_cons_succ])
          refine wpAnyB_ready (rs := [7]) (by kernel_rfl) (by simp) ?_
          refine AllReadyB.cons rfl (fun K hK => ?_) AllReadyB.nil
          go_simp
          go_at_call 23
          refine (of_lit [⟨#[]⟩, ⟨#[110, 105, 108]⟩, ⟨#[84, 111, 111, 108, 111, 110, 103]⟩, ⟨#[88]⟩] (by decide) (by decide) (p + 1 + 1) g wd hR3.out (by omega)).mono ?_
          rintro e w4 ⟨s, hs, rfl, hR4, hC4⟩
          have hC5 := hC4
          have hsz : s.size ≤ 1000 := by
            have hall : ∀ x ∈ ([⟨#[]⟩, ⟨#[110, 105, 108]⟩, ⟨#[84, 111, 111, 108, 111, 110, 103]⟩, ⟨#[88]⟩] : List ByteArray), x.size ≤ 1000 := by decide
            exact hall s hs
          have hS4 : w4.cell? ⟨b, off + d * 2 + 1, none⟩ = some (.slice (some ⟨b2, off2, none⟩) xs[d].ctors.length cap2) := (hC5.cell hbl hbg).trans kc
          have x4 : w4.cell? ⟨b2, off2, none⟩ = some (.string xs[d].ctors[0].name) := (hC5.cell hb2l hb2g).trans c0
          have f4 : w4.frozen? ⟨b2, off2, none⟩ = false := (World.frozen?_of_block (a := ⟨b2, off2, none⟩) (hC5.block _ hb2l hb2g)).trans f3
          have HFin := Lib.hid (HH.out w4 _ s hR4 hC5 (by omega) hsz)
          dsimp only
          refine hK.out _ _ hS4 (fun _ => trivial) ?_
          clear hK K
          (try simp only [Act.put, List.setIfInBounds_toArray, List.set_cons_zero, List.set_cons_succ])
          refine wpAnyB_take (i := 8) (v := ?_) rfl (by decide) (by kernel_rfl) (by kernel_rfl) (by kernel_rfl) (fun _ _ _ h => h) (Or.inl ⟨by rfl, ?hy8⟩) hS4 (fun _ => hT1) ?_
          case hy8 => (intro W hSw; (try dsimp only at hSw); go_simp; try with_reducible rfl)
          (try simp only [Act.put, List.setIfInBounds_toArray, List.set_cons_zero, List.set_cons_succ])
          refine wpAnyB_take (i := 9) (v := ?_) rfl (by decide) (by kernel_rfl) (by kernel_rfl) (by kernel_rfl) (fun _ _ _ h => h) (Or.inl ⟨by rfl, ?hy9⟩) hS4 (fun _ => hT1) ?_
          case hy9 => (intro W hSw; (try dsimp only at hSw); go_simp; try with_reducible rfl)
          (try simp only [Act.put, List.setIfInBounds_toArray, List.set_cons_zero, List.set_cons_succ])
          refine wpAnyB_ready (rs := [10]) (by kernel_rfl) (by simp) ?_
          refine AllReadyB.cons rfl (fun K hK => ?_) AllReadyB.nil
          go_simp
          refine hK.out _ _ ((World.cell?_setCell_far _ _ _ _ (by show b2 ≠ b; exact fun e => hbb e.symm)).trans hS4) (fun _ => trivial) ?_
          clear hK K
          (try simp only [Act.put, List.setIfInBounds_toArray, List.set_cons_zero, List.set_cons_succ])
          refine wpAnyB_end (by kernel_rfl) ?_
          clear hS1 hT1 hS4 x4 f4 hC5 hC4 hR4 HH hR3 f3 kc c0
          go_wp2
          go_ret
          exact HFin.out
        | false =>
          cases c3q : ((r : Int) == 3) with
          | true =>
            have hCd := HC3.out.drew
            clear HC3
            obtain ⟨b2, off2, cap2, aA, acap, kc, hbb, hbg, hb2g, hbl, hb2l, hz2, c0, c1, c2, hown, hrow, hal, H2, H4, H3⟩ := hCd.ctor (p := p) h0 HSM.out hd hk0
            have HH := Lib.hid H3
            have HRD := Lib.hid hCd.rd
            have f3 := hz2 (off2 + 1)
            have HOWN := Lib.hid hown
            have HROW := Lib.hid hrow
            have hm90 := HMM.out
            have hmx : xs[d].ctors[0].args.length + 1 ≤ maxLen := by unfold maxLen; omega
            have hby : (xs[d].ctors[0].args.length + 1) * 16 ≤ 140737488355328 := by omega
            clear hm90
            have hgl3 : g < w3.drew.heap.size := hCd.rd.lt
            have hgs : w3.drew.heap.size ≠ g := by omega
            have hgs1 : w3.drew.heap.size + 1 ≠ g := by omega
            clear c0 c2 hown hrow H2 H4 H3 hCd hz2
            go_wp2_with fail
            refine wp_region_B (S := fun w' => w'.cell? ⟨b, off + d * 2 + 1, none⟩ = some (.slice (some ⟨b2, off2, none⟩) xs[d].ctors.length cap2)) (T := fun w' => w'.cell? ⟨b2, off2 + 1, none⟩ = some (.slice aA xs[d].ctors[0].args.length acap)) (d := 21) (by kernel_rfl) ?_
            generalize w3.drew = wd at *
            have hS1 : wd.cell? ⟨b, off + d * 2 + 1, none⟩ = some (.slice (some ⟨b2, off2, none⟩) xs[d].ctors.length cap2) := kc
            have hT1 : wd.cell? ⟨b2, off2 + 1, none⟩ = some (.slice aA xs[d].ctors[0].args.length acap) := c1
            refine wpAnyB_take (i := 0) (v := ?_) rfl (by decide) (by kernel_rfl) (by kernel_rfl) (by kernel_rfl) (fun _ _ _ h => h) (Or.inl ⟨by rfl, ?hy0⟩) hS1 (fun _ => hT1) ?_
            case hy0 => (intro W hSw; (try dsimp only at hSw); go_simp; try with_reducible rfl)
            (try simp only [Act.put, List.setIfInBounds_toArray, List.set_cons_zero, List.set_cons_succ])
            refine wpAnyB_take (i := 1) (v := ?_) rfl (by decide) (by kernel_rfl) (by kernel_rfl) (by kernel_rfl) (fun _ _ _ h => h) (Or.inl ⟨by rfl, ?hy1⟩) hS1 (fun _ => hT1) ?_
            case hy1 => (intro W hSw; (try dsimp only at hSw); go_simp; try with_reducible rfl)
            (try simp only [Act.put, List.setIfInBounds_toArray, List.set_cons_zero, List.set_cons_succ])
            refine wpAnyB_take (i := 2) (v := ?_) rfl (by decide) (by kernel_rfl) (by kernel_rfl) (by kernel_rfl) (fun _ _ _ h => h) (Or.inl ⟨by rfl, ?hy2⟩) hS1 (fun _ => hT1) ?_
            case hy2 => (intro W hSw; (try dsimp only at hSw); go_simp; try with_reducible rfl)
            (try simp only [Act.put, List.setIfInBounds_toArray, List.set_cons_zero, List.set_cons_succ])
            refine wpAnyB_take (i := 3) (v := ?_) rfl (by decide) (by kernel_rfl) (by kernel_rfl) (by kernel_rfl) (fun _ _ _ h => h) (Or.inl ⟨by rfl, ?hy3⟩) hS1 (fun _ => hT1) ?_
            case hy3 => (intro W hSw; (try dsimp only at hSw); go_simp; try with_reducible rfl)
            (try simp only [Act.put, List.setIfInBounds_toArray, List.set_cons_zero, List.set_cons_succ])
            refine wpAnyB_take (i := 4) (v := ?_) rfl (by decide) (by kernel_rfl) (by kernel_rfl) (by kernel_rfl) (fun _ _ _ h => h) (Or.inl ⟨by rfl, ?hy4⟩) hS1 (fun _ => hT1) ?_
            case hy4 => (intro W hSw; (try dsimp only at hSw); go_simp; try with_reducible rfl)
            (try simp only [Act.put, List.setIfInBounds_toArray, List.set_cons_zero, List.set_cons_succ])
            refine wpAnyB_take (i := 5) (v := ?_) rfl (by decide) (by kernel_rfl) (by kernel_rfl) (by kernel_rfl) (fun _ _ _ h => h) (Or.inl ⟨by rfl, ?hy5⟩) hS1 (fun _ => hT1) ?_
            case hy5 => (intro W hSw; (try dsimp only at hSw); go_simp; try with_reducible rfl)
            (try simp only [Act.put, List.setIfInBounds_toArray, List.set_cons_zero, List.set_cons_succ])
            refine wpAnyB_take (i := 6) (v := ?_) rfl (by decide) (by kernel_rfl) (by kernel_rfl) (by kernel_rfl) (fun _ _ _ h => h) (Or.inl ⟨by rfl, ?hy6⟩) hS1 (fun _ => hT1) ?_
            case hy6 => (intro W hSw; (try dsimp only at hSw); go_simp; try with_reducible rfl)
            (try simp only [Act.put, List.setIfInBounds_toArray, List.set_cons_zero, List.set_cons_succ])
            refine wpAnyB_take (i := 7) (v := ?_) rfl (by decide) (by kernel_rfl) (by kernel_rfl) (by kernel_rfl) (fun _ _ _ h => h) (Or.inl ⟨by rfl, ?hy7⟩) hS1 (fun _ => hT1) ?_
            case hy7 => (intro W hSw; (try dsimp only at hSw); go_simp; try with_reducible rfl)
            (try simp only [Act.put, List.setIfInBounds_toArray, List.set_cons_zero, List.set_cons_succ])
            refine wpAnyB_take (i := 8) (v := ?_) rfl (by decide) (by kernel_rfl) (by kernel_rfl) (by kernel_rfl) (fun _ _ _ h => h) (Or.inl ⟨by rfl, ?hy8⟩) hS1 (fun _ => hT1) ?_
            case hy8 => (intro W hSw; (try dsimp only at hSw); go_simp; try with_reducible rfl)
            (try simp only [Act.put, List.setIfInBounds_toArray, List.set_cons_zero, List.set_cons_succ])
            refine wpAnyB_take (i := 9) (v := ?_) rfl (by decide) (by kernel_rfl) (by kernel_rfl) (by kernel_rfl) (fun _ _ _ h => h) (Or.inl ⟨by rfl, ?hy9⟩) hS1 (fun _ => hT1) ?_
            case hy9 => (intro W hSw; (try dsimp only at hSw); go_simp; try with_reducible rfl)
            (try simp only [Act.put, List.setIfInBounds_toArray, List.set_cons_zero, List.set_cons_succ])
            refine wpAnyB_take (i := 10) (v := ?_) rfl (by decide) (by kernel_rfl) (by kernel_rfl) (by kernel_rfl) (fun _ _ _ h => h) (Or.inl ⟨by rfl, ?hy10⟩) hS1 (fun _ => hT1) ?_
            case hy10 => (intro W hSw; (try dsimp only at hSw); go_simp; try with_reducible rfl)
            (try simp only [Act.put, List.setIfInBounds_toArray, List.set_cons_zero, List.set_cons_succ])
            refine wpAnyB_take (i := 11) (v := ?_) rfl (by decide) (by kernel_rfl) (by kernel_rfl) (by kernel_rfl) (fun _ _ _ h => h) (Or.inl ⟨by rfl, ?hy11⟩) hS1 (fun _ => hT1) ?_
            case hy11 => (intro W hSw; (try dsimp only at hSw); go_simp; try with_reducible rfl)
            (try simp only [Act.put, List.setIfInBounds_toArray, List.set_cons_zero, List.set_cons_succ])
            refine wpAnyB_takeB (i := 12) (v := ?_) rfl (by decide) rfl (by kernel_rfl) (by kernel_rfl) (by kernel_rfl) (by kernel_rfl) (fun _ _ _ h => h) (Or.inl ⟨by rfl, ?hy12⟩) (by rfl) hS1 hT1 ?_
            case hy12 => (intro W hSw; (try dsimp only at hSw); go_simp; try with_reducible rfl)
            (try simp only [Act.put, List.setIfInBounds_toArray, List.set_cons_zero, List.set_cons_succ])
            refine wpAnyB_take (i := 13) (v := ?_) rfl (by decide) (by kernel_rfl) (by kernel_rfl) (by kernel_rfl) (fun _ _ _ h => h) (Or.inl ⟨by rfl, ?hy13⟩) hS1 (fun _ => hT1) ?_
            case hy13 => (intro W hSw; (try dsimp only at hSw); go_simp; try with_reducible rfl)
            (try simp only [Act.put, List.setIfInBounds_toArray, List.set_cons_zero, List.set_cons_succ])
            refine wpAnyB_take (i := 16) (v := ?_) rfl (by decide) (by kernel_rfl) (by kernel_rfl) (by kernel_rfl) (fun _ _ _ h => h) (Or.inl ⟨by rfl, ?hy16⟩) hS1 (fun _ => hT1) ?_
            case hy16 => (intro W hSw; (try dsimp only at hSw); go_simp; try with_reducible rfl)
            (try simp only [Act.put, List.setIfInBounds_toArray, List.set_cons_zero, List.set_cons_succ])
            refine wpAnyB_ready (rs := [14, 17]) (by kernel_rfl) (by simp) ?_
            refine AllReadyB.cons rfl (fun K hK => ?_) (AllReadyB.cons rfl (fun K hK => ?_) AllReadyB.nil)
            · go_simp
              refine hK.out _ _ (((Chg.refl [g] wd).alloc _).cell hbl hbg |>.trans kc) (fun _ => ((Chg.refl [g] wd).alloc _).cell hb2l hb2g |>.trans c1) ?_
              clear hK K
              (try simp only [Act.put, List.setIfInBounds_toArray, List.set_cons_zero, List.set_cons_succ])
              refine wpAnyB_ready (rs := [15, 17]) (by kernel_rfl) (by simp) ?_
              refine AllReadyB.cons rfl (fun K hK => ?_) (AllReadyB.cons rfl (fun K hK => ?_) AllReadyB.nil)
              · go_simp
                go_at_call 55
                refine (num_at (LitN.new wd [9, -2, 0, -1] (by decide)) (by decide) (by decide) (p + 1 + 1) g (HRD.out.below ((Below.refl _ _).alloc (Nat.le_refl _) _)) (by omega) hgs).mono ?_
                rintro e w5 ⟨x, rfl, hRw5, hCw5⟩
                have hC5 : Chg [g] wd w5 := ((Chg.refl [g] wd).alloc _).trans hCw5
                dsimp only
                refine hK.out _ _ (((hC5).cell hbl hbg).trans kc) (fun _ => ((hC5).cell hb2l hb2g).trans c1) ?_
                clear hK K
                (try simp only [Act.put, List.setIfInBounds_toArray, List.set_cons_zero, List.set_cons_succ])
                refine wpAnyB_ready (rs := [17]) (by kernel_rfl) (by simp) ?_
                refine AllReadyB.cons rfl (fun K hK => ?_) AllReadyB.nil
                go_simp
                refine hK.out _ _ (((hC5).alloc _).cell hbl hbg |>.trans kc) (fun _ => ((hC5).alloc _).cell hb2l hb2g |>.trans c1) ?_
                clear hK K
                (try simp only [Act.put, List.setIfInBounds_toArray, List.set_cons_zero, List.set_cons_succ])
                refine wpAnyB_ready (rs := [18]) (by kernel_rfl) (by simp) ?_
                refine AllReadyB.cons rfl (fun K hK => ?_) AllReadyB.nil
                go_simp
                go_at_call 55
                refine (num_at (LitN.new w5 [0, 4, -1, -2] (by decide)) (by decide) (by decide) (p + 1 + 1 + 1) g (hRw5.below ((Below.refl _ _).alloc (Nat.le_refl _) _)) (by omega) (by have := hC5.size; omega)).mono ?_
                rintro e w6 ⟨y, rfl, hRw6, hCw6⟩
                have hC6 : Chg [g] wd w6 := (hC5.alloc _).trans hCw6
                have hSE : w6.cell? ⟨b, off + d * 2 + 1, none⟩ = some (.slice (some ⟨b2, off2, none⟩) xs[d].ctors.length cap2) := ((hC6).cell hbl hbg).trans kc
                have hTE : w6.cell? ⟨b2, off2 + 1, none⟩ = some (.slice aA xs[d].ctors[0].args.length acap) := ((hC6).cell hb2l hb2g).trans c1
                have HOE : Hid (Own w6 0 44 2 TyR xs[d].ctors[0].args (.slice aA xs[d].ctors[0].args.length acap) []) := HOWN.out.mono0 (w' := w6) (fun x cs G (h : TyR wd x cs G) => (h : TyR w6 x cs G)) ((hC6).kept (fun x hx => (HROW.out x hx).2.2.2) (fun x hx => (HROW.out x hx).1))
                have hzE : wd.heap.size ≤ w6.heap.size := (hC6).size
                have hfE : w6.frozen? ⟨b2, off2 + 1, none⟩ = false := (World.frozen?_of_block (a := ⟨b2, off2 + 1, none⟩) ((hC6).block _ hb2l hb2g)).trans f3
                have hFinE := HH.out w6 (p + 1 + 1 + 1 + 1) ⟨x, y⟩
                have HFE := Lib.hid (fun g' c' w3' o => hFinE g' c' w3' o hRw6 (hC6) (by omega))
                clear hFinE
                dsimp only
                refine hK.out _ _ hSE (fun _ => hTE) ?_
                clear hK K
                (try simp only [Act.put, List.setIfInBounds_toArray, List.set_cons_zero, List.set_cons_succ])
                refine wpAnyB_take (i := 19) (v := ?_) rfl (by decide) (by kernel_rfl) (by kernel_rfl) (by kernel_rfl) (fun _ _ _ h => h) (Or.inl ⟨by rfl, ?hy19⟩) hSE (fun _ => hTE) ?_
                case hy19 => (intro W hSw; (try dsimp only at hSw); go_simp; try with_reducible rfl)
                (try simp only [Act.put, List.setIfInBounds_toArray, List.set_cons_zero, List.set_cons_succ])
                refine wpAnyB_ready (rs := [20]) (by kernel_rfl) (by simp) ?_
                refine AllReadyB.cons rfl (fun K hK => ?_) AllReadyB.nil
                go_simp
                refine hK.out _ _ ((World.cell?_alloc_lt _ _ _ (Nat.lt_of_lt_of_le hbl hzE)).trans hSE) (fun _ => (World.cell?_alloc_lt _ _ _ (Nat.lt_of_lt_of_le hb2l hzE)).trans hTE) ?_
                clear hK K
                (try simp only [Act.put, List.setIfInBounds_toArray, List.set_cons_zero, List.set_cons_succ])
                refine wpAnyB_ready (rs := [21]) (by kernel_rfl) (by simp) ?_
                refine AllReadyB.cons rfl (fun K hK => ?_) AllReadyB.nil
                refine step_push1 (P := Tryd.prog) rfl _ _ 25 rfl j0 _ 16 Tryd.underlying25 HJ.out HJ0.out HJ1.out HJ2.out rfl (by decide) TyR_len' TyR_mono' (by rfl) HOE.out ⟨x, y⟩ 44 [.int .i64 x, .int .i64 y] [] _ (by rfl) rfl (by simp [Value.oneCell']) ⟨rfl, rfl⟩ (Under.nil _) (fun _ _ h => by cases h) hmx hby (Nat.zero_le _) ?_
                intro g' cp w7 hown7 hgr7 hat7
                have nb : some b ≠ (Value.slice aA xs[d].ctors[0].args.length acap).ownBlock := fun e => (HROW.out b (mem_rowOf.2 e.symm)).2.1 rfl
                have nb2 : some b2 ≠ (Value.slice aA xs[d].ctors[0].args.length acap).ownBlock := fun e => (HROW.out b2 (mem_rowOf.2 e.symm)).2.2.1 rfl
                have l7 : w6.heap.size ≤ (w6.alloc (.cells #[.int .i64 x, .int .i64 y] 44)).heap.size := by rw [World.size_alloc]; exact Nat.le_succ _
                have l8 : b < w6.heap.size := Nat.lt_of_lt_of_le hbl hzE
                have l9 : b2 < w6.heap.size := Nat.lt_of_lt_of_le hb2l hzE
                have s7 : w7.cell? ⟨b, off + d * 2 + 1, none⟩ = some (.slice (some ⟨b2, off2, none⟩) xs[d].ctors.length cap2) := (World.grownBy.cell_far hgr7 ⟨b, off + d * 2 + 1, none⟩ (Nat.lt_of_lt_of_le l8 l7) nb).trans ((World.cell?_alloc_lt _ _ _ l8).trans hSE)
                have t7 : w7.cell? ⟨b2, off2 + 1, none⟩ = some (.slice aA xs[d].ctors[0].args.length acap) := (World.grownBy.cell_far hgr7 ⟨b2, off2 + 1, none⟩ (Nat.lt_of_lt_of_le l9 l7) nb2).trans ((World.cell?_alloc_lt _ _ _ l9).trans hTE)
                have f7 : w7.frozen? ⟨b2, off2 + 1, none⟩ = false := (World.grownBy.frozen_far hgr7 ⟨b2, off2 + 1, none⟩ (Nat.lt_of_lt_of_le l9 l7) nb2).trans (Eq.trans (World.frozen?_of_block (Below.heap_alloc _ _ _ l9)) hfE)
                have HFin := Lib.hid (HFE.out g' cp w7 _ hown7 hgr7 hat7)
                refine hK.out _ _ s7 (fun _ => t7) ?_
                clear hK K
                (try simp only [Act.put, List.setIfInBounds_toArray, List.set_cons_zero, List.set_cons_succ])
                refine wpAnyB_take (i := 22) (v := ?_) rfl (by decide) (by kernel_rfl) (by kernel_rfl) (by kernel_rfl) (fun _ _ _ h => h) (Or.inl ⟨by rfl, ?hy22⟩) s7 (fun _ => t7) ?_
                case hy22 => (intro W hSw; (try dsimp only at hSw); go_simp; try with_reducible rfl)
                (try simp only [Act.put, List.setIfInBounds_toArray, List.set_cons_zero, List.set_cons_succ])
                refine wpAnyB_take (i := 23) (v := ?_) rfl (by decide) (by kernel_rfl) (by kernel_rfl) (by kernel_rfl) (fun _ _ _ h => h) (Or.inl ⟨by rfl, ?hy23⟩) s7 (fun _ => t7) ?_
                case hy23 => (intro W hSw; (try dsimp only at hSw); go_simp; try with_reducible rfl)
                (try simp only [Act.put, List.setIfInBounds_toArray, List.set_cons_zero, List.set_cons_succ])
                refine wpAnyB_ready (rs := [24]) (by kernel_rfl) (by simp) ?_
                refine AllReadyB.cons rfl (fun K hK => ?_) AllReadyB.nil
                go_simp
                refine hK.out _ _ ((World.cell?_setCell_far _ _ _ _ (by show b2 ≠ b; exact fun e => hbb e.symm)).trans s7) (fun h => by cases h) ?_
                clear hK K
                (try simp only [Act.put, List.setIfInBounds_toArray, List.set_cons_zero, List.set_cons_succ])
                refine wpAnyB_end (by kernel_rfl) ?_
                clear hS1 hT1 hSE hTE HOE hzE hfE HFE nb nb2 l7 l8 l9 s7 t7 f7 hown7 hgr7 hat7 HH HOWN HROW f3 kc c1 hmx hby
                go_wp2
                go_ret
                exact HFin.out
              · go_simp
                refine hK.out _ _ ((((Chg.refl [g] wd).alloc _).alloc _).cell hbl hbg |>.trans kc) (fun _ => (((Chg.refl [g] wd).alloc _).alloc _).cell hb2l hb2g |>.trans c1) ?_
                clear hK K
                (try simp only [Act.put, List.setIfInBounds_toArray, List.set_cons_zero, List.set_cons_succ])
                refine wpAnyB_ready (rs := [15]) (by kernel_rfl) (by simp) ?_
                refine AllReadyB.cons rfl (fun K hK => ?_) AllReadyB.nil
                go_simp
                go_at_call 55
                refine (num_at ((LitN.new wd [9, -2, 0, -1] (by decide)).alloc _) (by decide) (by decide) (p + 1 + 1) g ((HRD.out.below ((Below.refl _ _).alloc (Nat.le_refl _) _)).below ((Below.refl _ _).alloc (Nat.le_refl _) _)) (by omega) hgs).mono ?_
                rintro e w5 ⟨x, rfl, hRw5, hCw5⟩
                have hC5 : Chg [g] wd w5 := (((Chg.refl [g] wd).alloc _).alloc _).trans hCw5
                have hLB : LitN w5 (wd.heap.size + 1) [0, 4, -1, -2] := (LitN.new2 wd _ [0, 4, -1, -2] (by decide)).chg hCw5 (by rw [List.mem_singleton]; exact hgs1)
                dsimp only
                refine hK.out _ _ (((hC5).cell hbl hbg).trans kc) (fun _ => ((hC5).cell hb2l hb2g).trans c1) ?_
                clear hK K
                (try simp only [Act.put, List.setIfInBounds_toArray, List.set_cons_zero, List.set_cons_succ])
                refine wpAnyB_ready (rs := [18]) (by kernel_rfl) (by simp) ?_
                refine AllReadyB.cons rfl (fun K hK => ?_) AllReadyB.nil
                go_simp
                go_at_call 55
                refine (num_at hLB (by decide) (by decide) (p + 1 + 1 + 1) g hRw5 (by omega) hgs1).mono ?_
                rintro e w6 ⟨y, rfl, hRw6, hCw6⟩
                have hC6 : Chg [g] wd w6 := hC5.trans hCw6
                have hSE : w6.cell? ⟨b, off + d * 2 + 1, none⟩ = some (.slice (some ⟨b2, off2, none⟩) xs[d].ctors.length cap2) := ((hC6).cell hbl hbg).trans kc
                have hTE : w6.cell? ⟨b2, off2 + 1, none⟩ = some (.slice aA xs[d].ctors[0].args.length acap) := ((hC6).cell hb2l hb2g).trans c1
                have HOE : Hid (Own w6 0 44 2 TyR xs[d].ctors[0].args (.slice aA xs[d].ctors[0].args.length acap) []) := HOWN.out.mono0 (w' := w6) (fun x cs G (h : TyR wd x cs G) => (h : TyR w6 x cs G)) ((hC6).kept (fun x hx => (HROW.out x hx).2.2.2) (fun x hx => (HROW.out x hx).1))
                have hzE : wd.heap.size ≤ w6.heap.size := (hC6).size
                have hfE : w6.frozen? ⟨b2, off2 + 1, none⟩ = false := (World.frozen?_of_block (a := ⟨b2, off2 + 1, none⟩) ((hC6).block _ hb2l hb2g)).trans f3
                have hFinE := HH.out w6 (p + 1 + 1 + 1 + 1) ⟨x, y⟩
                have HFE := Lib.hid (fun g' c' w3' o => hFinE g' c' w3' o hRw6 (hC6) (by omega))
                clear hFinE
                dsimp only
                refine hK.out _ _ hSE (fun _ => hTE) ?_
                clear hK K
                (try simp only [Act.put, List.setIfInBounds_toArray, List.set_cons_zero, List.set_cons_succ])
                refine wpAnyB_take (i := 19) (v := ?_) rfl (by decide) (by kernel_rfl) (by kernel_rfl) (by kernel_rfl) (fun _ _ _ h => h) (Or.inl ⟨by rfl, ?hy19⟩) hSE (fun _ => hTE) ?_
                case hy19 => (intro W hSw; (try dsimp only at hSw); go_simp; try with_reducible rfl)
                (try simp only [Act.put, List.setIfInBounds_toArray, List.set_cons_zero, List.set_cons_succ])
                refine wpAnyB_ready (rs := [20]) (by kernel_rfl) (by simp) ?_
                refine AllReadyB.cons rfl (fun K hK => ?_) AllReadyB.nil
                go_simp
                refine hK.out _ _ ((World.cell?_alloc_lt _ _ _ (Nat.lt_of_lt_of_le hbl hzE)).trans hSE) (fun _ => (World.cell?_alloc_lt _ _ _ (Nat.lt_of_lt_of_le hb2l hzE)).trans hTE) ?_
                clear hK K
                (try simp only [Act.put, List.setIfInBounds_toArray, List.set_cons_zero, List.set_cons_succ])
                refine wpAnyB_ready (rs := [21]) (by kernel_rfl) (by simp) ?_
                refine AllReadyB.cons rfl (fun K hK => ?_) AllReadyB.nil
                refine step_push1 (P := Tryd.prog) rfl _ _ 25 rfl j0 _ 16 Tryd.underlying25 HJ.out HJ0.out HJ1.out HJ2.out rfl (by decide) TyR_len' TyR_mono' (by rfl) HOE.out ⟨x, y⟩ 44 [.int .i64 x, .int .i64 y] [] _ (by rfl) rfl (by simp [Value.oneCell']) ⟨rfl, rfl⟩ (Under.nil _) (fun _ _ h => by cases h) hmx hby (Nat.zero_le _) ?_
                intro g' cp w7 hown7 hgr7 hat7
                have nb : some b ≠ (Value.slice aA xs[d].ctors[0].args.length acap).ownBlock := fun e => (HROW.out b (mem_rowOf.2 e.symm)).2.1 rfl
                have nb2 : some b2 ≠ (Value.slice aA xs[d].ctors[0].args.length acap).ownBlock := fun e => (HROW.out b2 (mem_rowOf.2 e.symm)).2.2.1 rfl
                have l7 : w6.heap.size ≤ (w6.alloc (.cells #[.int .i64 x, .int .i64 y] 44)).heap.size := by rw [World.size_alloc]; exact Nat.le_succ _
                have l8 : b < w6.heap.size := Nat.lt_of_lt_of_le hbl hzE
                have l9 : b2 < w6.heap.size := Nat.lt_of_lt_of_le hb2l hzE
                have s7 : w7.cell? ⟨b, off + d * 2 + 1, none⟩ = some (.slice (some ⟨b2, off2, none⟩) xs[d].ctors.length cap2) := (World.grownBy.cell_far hgr7 ⟨b, off + d * 2 + 1, none⟩ (Nat.lt_of_lt_of_le l8 l7) nb).trans ((World.cell?_alloc_lt _ _ _ l8).trans hSE)
                have t7 : w7.cell? ⟨b2, off2 + 1, none⟩ = some (.slice aA xs[d].ctors[0].args.length acap) := (World.grownBy.cell_far hgr7 ⟨b2, off2 + 1, none⟩ (Nat.lt_of_lt_of_le l9 l7) nb2).trans ((World.cell?_alloc_lt _ _ _ l9).trans hTE)
                have f7 : w7.frozen? ⟨b2, off2 + 1, none⟩ = false := (World.grownBy.frozen_far hgr7 ⟨b2, off2 + 1, none⟩ (Nat.lt_of_lt_of_le l9 l7) nb2).trans (Eq.trans (World.frozen?_of_block (Below.heap_alloc _ _ _ l9)) hfE)
                have HFin := Lib.hid (HFE.out g' cp w7 _ hown7 hgr7 hat7)
                refine hK.out _ _ s7 (fun _ => t7) ?_
                clear hK K
                (try simp only [Act.put, List.setIfInBounds_toArray, List.set_cons_zero, List.set_cons_succ])
                refine wpAnyB_take (i := 22) (v := ?_) rfl (by decide) (by kernel_rfl) (by kernel_rfl) (by kernel_rfl) (fun _ _ _ h => h) (Or.inl ⟨by rfl, ?hy22⟩) s7 (fun _ => t7) ?_
                case hy22 => (intro W hSw; (try dsimp only at hSw); go_simp; try with_reducible rfl)
                (try simp only [Act.put, List.setIfInBounds_toArray, List.set_cons_zero, List.set_cons_succ])
                refine wpAnyB_take (i := 23) (v := ?_) rfl (by decide) (by kernel_rfl) (by kernel_rfl) (by kernel_rfl) (fun _ _ _ h => h) (Or.inl ⟨by rfl, ?hy23⟩) s7 (fun _ => t7) ?_
                case hy23 => (intro W hSw; (try dsimp only at hSw); go_simp; try with_reducible rfl)
                (try simp only [Act.put, List.setIfInBounds_toArray, List.set_cons_zero, List.set_cons_succ])
                refine wpAnyB_ready (rs := [24]) (by kernel_rfl) (by simp) ?_
                refine AllReadyB.cons rfl (fun K hK => ?_) AllReadyB.nil
                go_simp
                refine hK.out _ _ ((World.cell?_setCell_far _ _ _ _ (by show b2 ≠ b; exact fun e => hbb e.symm)).trans s7) (fun h => by cases h) ?_
                clear hK K
                (try simp only [Act.put, List.setIfInBounds_toArray, List.set_cons_zero, List.set_cons_succ])
                refine wpAnyB_end (by kernel_rfl) ?_
                clear hS1 hT1 hSE hTE HOE hzE hfE HFE nb nb2 l7 l8 l9 s7 t7 f7 hown7 hgr7 hat7 HH HOWN HROW f3 kc c1 hmx hby
                go_wp2
                go_ret
                exact HFin.out
            · go_simp
              refine hK.out _ _ (((Chg.refl [g] wd).alloc _).cell hbl hbg |>.trans kc) (fun _ => ((Chg.refl [g] wd).alloc _).cell hb2l hb2g |>.trans c1) ?_
              clear hK K
              (try simp only [Act.put, List.setIfInBounds_toArray, List.set_cons_zero, List.set_cons_succ])
              refine wpAnyB_ready (rs := [14]) (by kernel_rfl) (by simp) ?_
              refine AllReadyB.cons rfl (fun K hK => ?_) AllReadyB.nil
              go_simp
              refine hK.out _ _ ((((Chg.refl [g] wd).alloc _).alloc _).cell hbl hbg |>.trans kc) (fun _ => (((Chg.refl [g] wd).alloc _).alloc _).cell hb2l hb2g |>.trans c1) ?_
              clear hK K
              (try simp only [Act.put, List.setIfInBounds_toArray, List.set_cons_zero, List.set_cons_succ])
              refine wpAnyB_ready (rs := [15]) (by kernel_rfl) (by simp) ?_
              refine AllReadyB.cons rfl (fun K hK => ?_) AllReadyB.nil
              go_simp
              go_at_call 55
              refine (num_at (LitN.new2 wd _ [9, -2, 0, -1] (by decide)) (by decide) (by decide) (p + 1 + 1) g ((HRD.out.below ((Below.refl _ _).alloc (Nat.le_refl _) _)).below ((Below.refl _ _).alloc (Nat.le_refl _) _)) (by omega) hgs1).mono ?_
              rintro e w5 ⟨x, rfl, hRw5, hCw5⟩
              have hC5 : Chg [g] wd w5 := (((Chg.refl [g] wd).alloc _).alloc _).trans hCw5
              have hLB : LitN w5 wd.heap.size [0, 4, -1, -2] := ((LitN.new wd [0, 4, -1, -2] (by decide)).alloc _).chg hCw5 (by rw [List.mem_singleton]; exact hgs)
              dsimp only
              refine hK.out _ _ (((hC5).cell hbl hbg).trans kc) (fun _ => ((hC5).cell hb2l hb2g).trans c1) ?_
              clear hK K
              (try simp only [Act.put, List.setIfInBounds_toArray, List.set_cons_zero, List.set_cons_succ])
              refine wpAnyB_ready (rs := [18]) (by kernel_rfl) (by simp) ?_
              refine AllReadyB.cons rfl (fun K hK => ?_) AllReadyB.nil
              go_simp
              go_at_call 55
              refine (num_at hLB (by decide) (by decide) (p + 1 + 1 + 1) g hRw5 (by omega) hgs).mono ?_
              rintro e w6 ⟨y, rfl, hRw6, hCw6⟩
              have hC6 : Chg [g] wd w6 := hC5.trans hCw6
              have hSE : w6.cell? ⟨b, off + d * 2 + 1, none⟩ = some (.slice (some ⟨b2, off2, none⟩) xs[d].ctors.length cap2) := ((hC6).cell hbl hbg).trans kc
              have hTE : w6.cell? ⟨b2, off2 + 1, none⟩ = some (.slice aA xs[d].ctors[0].args.length acap) := ((hC6).cell hb2l hb2g).trans c1
              have HOE : Hid (Own w6 0 44 2 TyR xs[d].ctors[0].args (.slice aA xs[d].ctors[0].args.length acap) []) := HOWN.out.mono0 (w' := w6) (fun x cs G (h : TyR wd x cs G) => (h : TyR w6 x cs G)) ((hC6).kept (fun x hx => (HROW.out x hx).2.2.2) (fun x hx => (HROW.out x hx).1))
              have hzE : wd.heap.size ≤ w6.heap.size := (hC6).size
              have hfE : w6.frozen? ⟨b2, off2 + 1, none⟩ = false := (World.frozen?_of_block (a := ⟨b2, off2 + 1, none⟩) ((hC6).block _ hb2l hb2g)).trans f3
              have hFinE := HH.out w6 (p + 1 + 1 + 1 + 1) ⟨x, y⟩
              have HFE := Lib.hid (fun g' c' w3' o => hFinE g' c' w3' o hRw6 (hC6) (by omega))
              clear hFinE
              dsimp only
              refine hK.out _ _ hSE (fun _ => hTE) ?_
              clear hK K
              (try simp only [Act.put, List.setIfInBounds_toArray, List.set_cons_zero, List.set_cons_succ])
              refine wpAnyB_take (i := 19) (v := ?_) rfl (by decide) (by kernel_rfl) (by kernel_rfl) (by kernel_rfl) (fun _ _ _ h => h) (Or.inl ⟨by rfl, ?hy19⟩) hSE (fun _ => hTE) ?_
              case hy19 => (intro W hSw; (try dsimp only at hSw); go_simp; try with_reducible rfl)
              (try simp only [Act.put, List.setIfInBounds_toArray, List.set_cons_zero, List.set_cons_succ])
              refine wpAnyB_ready (rs := [20]) (by kernel_rfl) (by simp) ?_
              refine AllReadyB.cons rfl (fun K hK => ?_) AllReadyB.nil
              go_simp
              refine hK.out _ _ ((World.cell?_alloc_lt _ _ _ (Nat.lt_of_lt_of_le hbl hzE)).trans hSE) (fun _ => (World.cell?_alloc_lt _ _ _ (Nat.lt_of_lt_of_le hb2l hzE)).trans hTE) ?_
              clear hK K
              (try simp only [Act.put, List.setIfInBounds_toArray, List.set_cons_zero, List.set_cons_succ])
              refine wpAnyB_ready (rs := [21]) (by kernel_rfl) (by simp) ?_
              refine AllReadyB.cons rfl (fun K hK => ?_) AllReadyB.nil
              refine step_push1 (P := Tryd.prog) rfl _ _ 25 rfl j0 _ 16 Tryd.underlying25 HJ.out HJ0.out HJ1.out HJ2.out rfl (by decide) TyR_len' TyR_mono' (by rfl) HOE.out ⟨x, y⟩ 44 [.int .i64 x, .int .i64 y] [] _ (by rfl) rfl (by simp [Value.oneCell']) ⟨rfl, rfl⟩ (Under.nil _) (fun _ _ h => by cases h) hmx hby (Nat.zero_le _) ?_
              intro g' cp w7 hown7 hgr7 hat7
              have nb : some b ≠ (Value.slice aA xs[d].ctors[0].args.length acap).ownBlock := fun e => (HROW.out b (mem_rowOf.2 e.symm)).2.1 rfl
              have nb2 : some b2 ≠ (Value.slice aA xs[d].ctors[0].args.length acap).ownBlock := fun e => (HROW.out b2 (mem_rowOf.2 e.symm)).2.2.1 rfl
              have l7 : w6.heap.size ≤ (w6.alloc (.cells #[.int .i64 x, .int .i64 y] 44)).heap.size := by rw [World.size_alloc]; exact Nat.le_succ _
              have l8 : b < w6.heap.size := Nat.lt_of_lt_of_le hbl hzE
              have l9 : b2 < w6.heap.size := Nat.lt_of_lt_of_le hb2l hzE
              have s7 : w7.cell? ⟨b, off + d * 2 + 1, none⟩ = some (.slice (some ⟨b2, off2, none⟩) xs[d].ctors.length cap2) := (World.grownBy.cell_far hgr7 ⟨b, off + d * 2 + 1, none⟩ (Nat.lt_of_lt_of_le l8 l7) nb).trans ((World.cell?_alloc_lt _ _ _ l8).trans hSE)
              have t7 : w7.cell? ⟨b2, off2 + 1, none⟩ = some (.slice aA xs[d].ctors[0].args.length acap) := (World.grownBy.cell_far hgr7 ⟨b2, off2 + 1, none⟩ (Nat.lt_of_lt_of_le l9 l7) nb2).trans ((World.cell?_alloc_lt _ _ _ l9).trans hTE)
              have f7 : w7.frozen? ⟨b2, off2 + 1, none⟩ = false := (World.grownBy.frozen_far hgr7 ⟨b2, off2 + 1, none⟩ (Nat.lt_of_lt_of_le l9 l7) nb2).trans (Eq.trans (World.frozen?_of_block (Below.heap_alloc _ _ _ l9)) hfE)
              have HFin := Lib.hid (HFE.out g' cp w7 _ hown7 hgr7 hat7)
              refine hK.out _ _ s7 (fun _ => t7) ?_
              clear hK K
              (try simp only [Act.put, List.setIfInBounds_toArray, List.set_cons_zero, List.set_cons_succ])
              refine wpAnyB_take (i := 22) (v := ?_) rfl (by decide) (by kernel_rfl) (by kernel_rfl) (by kernel_rfl) (fun _ _ _ h => h) (Or.inl ⟨by rfl, ?hy22⟩) s7 (fun _ => t7) ?_
              case hy22 => (intro W hSw; (try dsimp only at hSw); go_simp; try with_reducible rfl)
              (try simp only [Act.put, List.setIfInBounds_toArray, List.set_cons_zero, List.set_cons_succ])
              refine wpAnyB_take (i := 23) (v := ?_) rfl (by decide) (by kernel_rfl) (by kernel_rfl) (by kernel_rfl) (fun _ _ _ h => h) (Or.inl ⟨by rfl, ?hy23⟩) s7 (fun _ => t7) ?_
              case hy23 => (intro W hSw; (try dsimp only at hSw); go_simp; try with_reducible rfl)
              (try simp only [Act.put, List.setIfInBounds_toArray, List.set_cons_zero, List.set_cons_succ])
              refine wpAnyB_ready (rs := [24]) (by kernel_rfl) (by simp) ?_
              refine AllReadyB.cons rfl (fun K hK => ?_) AllReadyB.nil
              go_simp
              refine hK.out _ _ ((World.cell?_setCell_far _ _ _ _ (by show b2 ≠ b; exact fun e => hbb e.symm)).trans s7) (fun h => by cases h) ?_
              clear hK K
              (try simp only [Act.put, List.setIfInBounds_toArray, List.set_cons_zero, List.set_cons_succ])
              refine wpAnyB_end (by kernel_rfl) ?_
              clear hS1 hT1 hSE hTE HOE hzE hfE HFE nb nb2 l7 l8 l9 s7 t7 f7 hown7 hgr7 hat7 HH HOWN HROW f3 kc c1 hmx hby
              go_wp2
              go_ret
              exact HFin.out
          | false =>
            cases c4q : ((r : Int) == 4) with
            | true =>
              have hCd := HC3.out.drew
              clear HC3
              obtain ⟨b2, off2, cap2, aA, acap, kc, hbb, hbg, hb2g, hbl, hb2l, hz2, c0, c1, c2, hown, hrow, hal, H2, H4, H3⟩ := hCd.ctor (p := p) h0 HSM.out hd hk0
              have HH := Lib.hid H4
              have hR3 := Lib.hid hCd.rd
              have f3 := hz2 (off2 + 2)
              clear c0 c1 hown hrow hal H2 H4 H3 hCd hz2
              go_wp2_with fail
              refine wp_region_B (S := fun w' => w'.cell? ⟨b, off + d * 2 + 1, none⟩ = some (.slice (some ⟨b2, off2, none⟩) xs[d].ctors.length cap2)) (T := fun _ => True) (d := 10) (by kernel_rfl) ?_
              generalize w3.drew = wd at *
              have hS1 : wd.cell? ⟨b, off + d * 2 + 1, none⟩ = some (.slice (some ⟨b2, off2, none⟩) xs[d].ctors.length cap2) := kc
              have hT1 : True := trivial
              refine wpAnyB_take (i := 0) (v := ?_) rfl (by decide) (by kernel_rfl) (by kernel_rfl) (by kernel_rfl) (fun _ _ _ h => h) (Or.inl ⟨by rfl, ?hy0⟩) hS1 (fun _ => hT1) ?_
              case hy0 => (intro W hSw; (try dsimp only at hSw); go_simp; try with_reducible rfl)
              (try simp only [Act.put, List.setIfInBounds_toArray, List.set_cons_zero, List.set_cons_succ])
              refine wpAnyB_take (i := 1) (v := ?_) rfl (by decide) (by kernel_rfl) (by kernel_rfl) (by kernel_rfl) (fun _ _ _ h => h) (Or.inl ⟨by rfl, ?hy1⟩) hS1 (fun _ => hT1) ?_
              case hy1 => (intro W hSw; (try dsimp only at hSw); go_simp; try with_reducible rfl)
              (try simp only [Act.put, List.setIfInBounds_toArray, List.set_cons_zero, List.set_cons_succ])
              refine wpAnyB_take (i := 2) (v := ?_) rfl (by decide) (by kernel_rfl) (by kernel_rfl) (by kernel_rfl) (fun _ _ _ h => h) (Or.inl ⟨by rfl, ?hy2⟩) hS1 (fun _ => hT1) ?_
              case hy2 => (intro W hSw; (try dsimp only at hSw); go_simp; try with_reducible rfl)
              (try simp only [Act.put, List.setIfInBounds_toArray, List.set_cons_zero, List.set_cons_succ])
              refine wpAnyB_take (i := 3) (v := ?_) rfl (by decide) (by kernel_rfl) (by kernel_rfl) (by kernel_rfl) (fun _ _ _ h => h) (Or.inl ⟨by rfl, ?hy3⟩) hS1 (fun _ => hT1) ?_
              case hy3 => (intro W hSw; (try dsimp only at hSw); go_simp; try with_reducible rfl)
              (try simp only [Act.put, List.setIfInBounds_toArray, List.set_cons_zero, List.set_cons_succ])
              refine wpAnyB_take (i := 4) (v := ?_) rfl (by decide) (by kernel_rfl) (by kernel_rfl) (by kernel_rfl) (fun _ _ _ h => h) (Or.inl ⟨by rfl, ?hy4⟩) hS1 (fun _ => hT1) ?_
              case hy4 => (intro W hSw; (try dsimp only at hSw); go_simp; try with_reducible rfl)
              (try simp only [Act.put, List.setIfInBounds_toArray, List.set_cons_zero, List.set_cons_succ])
              refine wpAnyB_take (i := 5) (v := ?_) rfl (by decide) (by kernel_rfl) (by kernel_rfl) (by kernel_rfl) (fun _ _ _ h => h) (Or.inl ⟨by rfl, ?hy5⟩) hS1 (fun _ => hT1) ?_
              case hy5 => (intro W hSw; (try dsimp only at hSw); go_simp; try with_reducible rfl)
              (try simp only [Act.put, List.setIfInBounds_toArray, List.set_cons_zero, List.set_cons_succ])
              refine wpAnyB_ready (rs := [6]) (by kernel_rfl) (by simp) ?_
              refine AllReadyB.cons rfl (fun K hK => ?_) AllReadyB.nil
              go_simp
              refine hK.out _ _ ((World.cell?_alloc_lt _ _ _ hbl).trans kc) (fun _ => trivial) ?_
              clear hK K
              (try simp only [Act.put, List.setIfInBounds_toArray, List.set_cons_zero, List.set_cons_succ])
              refine wpAnyB_ready (rs := [7]) (by kernel_rfl) (by simp) ?_
              refine AllReadyB.cons rfl (fun K hK => ?_) AllReadyB.nil
              go_simp
              go_at_call 55
              refine (num_lit [4, -1, 1] (by decide) (by decide) (p + 1 + 1) g wd hR3.out (by omega)).mono ?_
              rintro e w4 ⟨s, hs, rfl, hR4, hC4⟩
              have hC5 := hC4
              have hS4 : w4.cell? ⟨b, off + d * 2 + 1, none⟩ = some (.slice (some ⟨b2, off2, none⟩) xs[d].ctors.length cap2) := (hC5.cell hbl hbg).trans kc
              have x4 : w4.cell? ⟨b2, off2 + 2, none⟩ = some (.int .i64 xs[d].ctors[0].idx) := (hC5.cell hb2l hb2g).trans c2
              have f4 : w4.frozen? ⟨b2, off2 + 2, none⟩ = false := (World.frozen?_of_block (a := ⟨b2, off2 + 2, none⟩) (hC5.block _ hb2l hb2g)).trans f3
              have HFin := Lib.hid (HH.out w4 _ s hR4 hC5 (by omega))
              dsimp only
              refine hK.out _ _ hS4 (fun _ => trivial) ?_
              clear hK K
              (try simp only [Act.put, List.setIfInBounds_toArray, List.set_cons_zero, List.set_cons_succ])
              refine wpAnyB_take (i := 8) (v := ?_) rfl (by decide) (by kernel_rfl) (by kernel_rfl) (by kernel_rfl) (fun _ _ _ h => h) (Or.inl ⟨by rfl, ?hy8⟩) hS4 (fun _ => hT1) ?_
              case hy8 => (intro W hSw; (try dsimp only at hSw); go_simp; try with_reducible rfl)
              (try simp only [Act.put, List.setIfInBounds_toArray, List.set_cons_zero, List.set_cons_succ])
              refine wpAnyB_take (i := 9) (v := ?_) rfl (by decide) (by kernel_rfl) (by kernel_rfl) (by kernel_rfl) (fun _ _ _ h => h) (Or.inl ⟨by rfl, ?hy9⟩) hS4 (fun _ => hT1) ?_
              case hy9 => (intro W hSw; (try dsimp only at hSw); go_simp; try with_reducible rfl)
              (try simp only [Act.put, List.setIfInBounds_toArray, List.set_cons_zero, List.set_cons_succ])
              refine wpAnyB_ready (rs := [10]) (by kernel_rfl) (by simp) ?_
              refine AllReadyB.cons rfl (fun K hK => ?_) AllReadyB.nil
              go_simp
              refine hK.out _ _ ((World.cell?_setCell_far _ _ _ _ (by show b2 ≠ b; exact fun e => hbb e.symm)).trans hS4) (fun _ => trivial) ?_
              clear hK K
              (try simp only [Act.put, List.setIfInBounds_toArray, List.set_cons_zero, List.set_cons_succ])
              refine wpAnyB_end (by kernel_rfl) ?_
              clear hS1 hT1 hS4 x4 f4 hC5 hC4 hR4 HH hR3 f3 kc c2
              go_wp2
              go_ret
              exact HFin.out
            | false =>
              cases c5q : ((r : Int) == 5) with
              | true =>
                obtain ⟨kA, kcap, F2, n0, k0, z0, hb, hbl, hk1, hk2, hdx, hF2, hname, hctors⟩ := HC3.out.data (p := p) h0 HSM.out hd
                have HDX := Lib.hid hdx
                have HF2 := Lib.hid hF2
                have hbs : w.heap.size ≤ w3.heap.size := HC3.out.chg.size
                clear z0 hdx hF2 hname hctors
                go_wp2_with (at_builtin; refine Halt.mk ?_)
                refine Halt.of (wpList_push1 (P := Tryd.prog) rfl _ _ 31 rfl m0 _ 40 Tryd.underlying31 HM.out HM0.out HM1.out HM2.out rfl (by decide) DtO_len DtO_mono (by rfl) HC3.out.own xs[d] 30 [.string xs[d].name, .slice kA xs[d].ctors.length kcap] F2 _ (by rfl) rfl (by simp [Value.oneCell']) HDX.out (fun x hx => (HF2.out x hx).2.2) (fun x hx hG => (HF2.out x hG).1 (by rw [rowOf_some, List.mem_singleton] at hx; exact hx)) (by unfold maxLen; omega) (by omega) hbs ?_)
                intro g' cp w7 hown7 hgr7 hat7
                have HFin := Lib.hid (HC3.out.twice (p := p) h0 HSM.out hd (fun x hx => (HF2.out x hx).2.1) rfl hown7 hgr7 (by omega))
                clear hown7 hgr7 hat7 n0 k0 hk1 hk2 HDX HF2 HC3
                go_wp2
                go_ret
                exact HFin.out
              | false =>
                have HFin := Lib.hid (HC3.out.done (p := p) h0 HSM.out (by omega))
                clear HC3
                go_wp2
                go_ret
                exact HFin.out
end Go.Proofs.YtcknbkbejifhcaaDoor

namespace Go.Proofs.YtcknbkbejifhcaaDoor
open Go.RowKit

theorem results_tmp_cell_row {P : Program} {fn : Func} {u p : Tmp} {ty : TypeId} (h : fn.results = #[.tmp u, .cell p ty]) (tmps : Array Value) (w : World) (g : Nat) (t : TypeId) (cs : Array Value) (fr : Nat × Nat) (d : TypeDesc)
    (hp : tmps.getD p undef = .pointer (some ⟨g, 0, none⟩)) (hg : w.heap[g]? = some (.cells cs t fr))
    (hu : P.underlying ty = some d) (hd : (match d with | .struct _ | .array _ _ => true | _ => false) = true) (hi : (P.info? ty).map (·.size) = some cs.size) :
    (results fn tmps).run P w = .ok (.tuple #[tmps.getD u undef, .agg cs]) w := by
  have hp' : tmps[p]?.getD undef = .pointer (some ⟨g, 0, none⟩) := by simpa using hp
  simp [results, h, hp', asAddr, run_loadVar_row w g t ty cs fr d hg hu hd hi]
theorem results_tmp_cell_tmp {P : Program} {fn : Func} {u p v : Tmp} {ty : TypeId} (h : fn.results = #[.tmp u, .cell p ty, .tmp v]) (tmps : Array Value) (w : World) (g : Nat) (t : TypeId) (cs : Array Value) (fr : Nat × Nat) (d : TypeDesc)
    (hp : tmps.getD p undef = .pointer (some ⟨g, 0, none⟩)) (hg : w.heap[g]? = some (.cells cs t fr))
    (hu : P.underlying ty = some d) (hd : (match d with | .struct _ | .array _ _ => true | _ => false) = true) (hi : (P.info? ty).map (·.size) = some cs.size) :
    (results fn tmps).run P w = .ok (.tuple #[tmps.getD u undef, .agg cs, tmps.getD v undef]) w := by
  have hp' : tmps[p]?.getD undef = .pointer (some ⟨g, 0, none⟩) := by simpa using hp
  simp [results, h, hp', asAddr, run_loadVar_row w g t ty cs fr d hg hu hd hi]
/-- a world of the call's own -/
def DrewW (w : World) (e : Ending) (w' : World) : Prop := ∃ xs v F, e = .returned v ∧ Below w.heap.size w w' ∧ Arr w' (DtR w') xs v F ∧ Fresh w w' F
/-- a world and a type -/
def DrewWT (w : World) (e : Ending) (w' : World) : Prop := ∃ xs v F, ∃ t : Ty, e = .returned (.tuple #[v, .agg #[.int .i64 t.d, .int .i64 t.i]]) ∧ Below w.heap.size w w' ∧ Arr w' (DtR w') xs v F ∧ Fresh w w' F
/-- a world, a type and a number -/
def DrewWTN (w : World) (e : Ending) (w' : World) : Prop := ∃ xs v F, ∃ t : Ty, ∃ n : Int, e = .returned (.tuple #[v, .agg #[.int .i64 t.d, .int .i64 t.i], .int .i64 n]) ∧ Below w.heap.size w w' ∧ Arr w' (DtR w') xs v F ∧ Fresh w w' F

theorem Chg.low {g B : Nat} {w w' : World} (h : Chg [g] w w') (hg : B ≤ g) (hB : B ≤ w.heap.size) : Below B w w' := h.below (fun b hb => by rw [List.mem_singleton] at hb; omega) hB

/-- two worlds -/
def DrewWW (w : World) (e : Ending) (w' : World) : Prop := ∃ xs v F ys v2 F2, e = .returned (.tuple #[v, v2]) ∧ Below w.heap.size w w' ∧ Arr w' (DtR w') xs v F ∧ Under w'.heap.size F ∧ Arr w' (DtR w') ys v2 F2 ∧ Under w'.heap.size F2
set_option maxRecDepth 100000 in
set_option maxHeartbeats 1600000 in
theorem spec_DrawWorldSame (bs : List Int) (w : World) (v : Value) (F : List Nat) (hx : Arr w (ByR w) bs v F) (hf : Under w.heap.size F) :
    Calls Tryd.prog 12 #[v] w (DrewWW w) := by
  have HX := Lib.hid hx
  have HU := Lib.hid hf
  clear hx hf
  go_enter Tryd.func12, Tryd.ntmps12
  go_wp2_with fail
  refine (spec_l17Open bs w v F HX.out HU.out).mono ?_
  rintro e w2 ⟨g, rfl, hge, hb2, hR2⟩
  have HR2 := Lib.hid hR2
  have hgl := hR2.lt
  clear hR2 HX HU
  go_wp2_with fail
  refine (spec_l1World 0 g w2 HR2.out (by omega)).mono ?_
  rintro e w3 ⟨xs, v3, F3, q3, rfl, ⟨hok, h0⟩, ha3, hfs3, hR3, hq3, hC3⟩
  have hW := worldOK hok
  have hlen := hW.len
  have HSM := Lib.hid (SmallW.of hW)
  have HR3 := Lib.hid hR3
  have HA3 := Lib.hid ha3
  have HF3 := Lib.hid hfs3
  have hB3 : Below w.heap.size w w3 := hb2.trans (hC3.low (by omega) hb2.size)
  have hgF : ∀ b ∈ F3, g ≠ b := fun b hb e => by have := (hfs3 b hb).1; omega
  clear hR3 ha3 hfs3 hC3 hok hW HR2
  go_wp2_with fail
  refine (pick_any 2 q3 g w3 HR3.out (by omega) (by omega) (by omega)).mono ?_
  rintro e w4 ⟨r, rfl, hr, hR4, hC4⟩
  have HR4 := Lib.hid hR4
  have HA4 : Hid (Arr w4 (DtR w4) xs v3 F3) := ArrDt.mono HA3.out (hC4.kept HF3.out.under (fun b hb h => hgF b hb (List.mem_singleton.1 h).symm))
  have HU4 : Hid (Under w4.heap.size F3) := HF3.out.under.mono hC4.size
  have hB4 : Below w.heap.size w w4 := hB3.trans (hC4.low (by omega) hB3.size)
  clear hR4 hC4 HR3 HA3
  cases q0 : ((r : Int) == 0) with
  | true =>
    go_wp2_with fail
    refine (spec_l1World (q3 + 1) g w4 HR4.out (by omega)).mono ?_
    rintro e w5 ⟨ys, v5, F5, q5, rfl, -, ha5, hfs5, -, -, hC5⟩
    have HFin : Hid (DrewWW w (.returned (.tuple #[v3, v5])) w5) := ⟨xs, v3, F3, ys, v5, F5, rfl, hB4.trans (hC5.low (by omega) hB4.size), ArrDt.mono HA4.out (hC5.kept HU4.out (fun b hb h => hgF b hb (List.mem_singleton.1 h).symm)), HU4.out.mono hC5.size, ha5, hfs5.under⟩
    clear ha5 hfs5 hC5 hgF
    go_wp2
    go_ret2
    exact HFin.out
  | false =>
    go_wp2_with fail
    refine (spec_l1Mutate (q3 + 1) g w4 HR4.out (by omega) xs _ F3 HA4.out HU4.out h0 (by omega) 4 (by omega) HSM.out).mono ?_
    rintro e w5 ⟨ys, v5, F5, q5, rfl, ⟨hy0, hyl, hys⟩, ha5, hfs5, hR5, hq5, hC5⟩
    have HR5 := Lib.hid hR5
    have HA5 : Hid (Arr w5 (DtR w5) xs v3 F3) := ArrDt.mono HA4.out (hC5.kept HU4.out (fun b hb h => hgF b hb (List.mem_singleton.1 h).symm))
    have HU5 : Hid (Under w5.heap.size F3) := HU4.out.mono hC5.size
    have hB5 : Below w.heap.size w w5 := hB4.trans (hC5.low (by omega) hB4.size)
    have HY := Lib.hid ha5
    have HYU := Lib.hid hfs5.under
    have HYS := Lib.hid hys
    clear ha5 hfs5 hC5 hys hR5
    go_wp2_with fail
    refine (spec_l1Mutate q5 g w5 HR5.out (by omega) ys _ F5 HY.out HYU.out hy0 (by omega) 5 (by omega) HYS.out).mono ?_
    rintro e w6 ⟨zs, v6, F6, q6, rfl, -, ha6, hfs6, -, -, hC6⟩
    have HFin : Hid (DrewWW w (.returned (.tuple #[v3, v6])) w6) := ⟨xs, v3, F3, zs, v6, F6, rfl, hB5.trans (hC6.low (by omega) hB5.size), ArrDt.mono HA5.out (hC6.kept HU5.out (fun b hb h => hgF b hb (List.mem_singleton.1 h).symm)), HU5.out.mono hC6.size, ha6, hfs6.under⟩
    clear ha6 hfs6 hC6 hgF
    go_wp2
    go_ret2
    exact HFin.out
end Go.Proofs.YtcknbkbejifhcaaDoor

namespace Go.Proofs.YtcknbkbejifhcaaDoor
open Go.RowKit

theorem joinTail_nil (sep : List UInt8) : Lib.joinTail sep [] = [] := rfl
theorem joinTail_cons (sep x : List UInt8) (r : List (List UInt8)) : Lib.joinTail sep (x :: r) = sep ++ x ++ Lib.joinTail sep r := by simp [Lib.joinTail]
theorem join_of {α : Type} (f : α → List UInt8) (g : Bool → List α → List UInt8) (s : UInt8) (h0 : ∀ b, g b [] = []) (h1 : ∀ x l, g true (x :: l) = f x ++ g false l) (h2 : ∀ x l, g false (x :: l) = s :: (f x ++ g false l)) (l : List α) : Lib.join (l.map f) [s] = g true l := by
  have key : ∀ l : List α, Lib.joinTail [s] (l.map f) = g false l := by
    intro l
    induction l with
    | nil => rw [h0]; rfl
    | cons x l ih => rw [List.map_cons, joinTail_cons, ih, h2]; rfl
  cases l with
  | nil => rw [h0]; rfl
  | cons x l => rw [List.map_cons, Lib.join_cons, key, h1]
/-- texts in brackets, if there are any -/
def listedT (ls : List ByteArray) : List UInt8 := if ls = [] then [] else 40 :: (Lib.join (ls.map tl) [44] ++ [41])
def tyB (xs : List Dt) (t : Ty) : ByteArray := bs (tyT xs t)
def ktB (xs : List Dt) (c : Kt) : ByteArray := bs (ktT xs c)
def dtT (xs : List Dt) (x : Dt) : List UInt8 := tl x.name ++ (61 :: ktsT xs true x.ctors)
def dtB (xs : List Dt) (x : Dt) : ByteArray := bs (dtT xs x)
theorem map_tl_bs {α : Type} (f : α → List UInt8) (l : List α) : (l.map fun x => bs (f x)).map tl = l.map f := by rw [List.map_map]; rfl
theorem argsT_join (xs : List Dt) (a : Ty) (l : List Ty) : argsT xs true (a :: l) = 40 :: Lib.join ((a :: l).map (tyT xs)) [44] := by
  have h := join_of (tyT xs) (fun b l => if b = true then (match l with | [] => [] | x :: l => tyT xs x ++ argsT xs false l) else argsT xs false l) 44 (fun b => by cases b <;> rfl) (fun x l => rfl) (fun x l => rfl) (a :: l)
  rw [h]; rfl
theorem listedT_args (xs : List Dt) (c : Kt) : listedT (c.args.map (tyB xs)) = argsT xs true c.args ++ closeT c := by
  unfold listedT closeT tyB
  cases hl : c.args with
  | nil => rfl
  | cons a l =>
    rw [if_neg (by simp), if_pos (by simp), map_tl_bs, argsT_join]
    rfl
theorem ktT_listed (xs : List Dt) (c : Kt) : tl c.name ++ (listedT (c.args.map (tyB xs)) ++ endT c) = ktT xs c := by
  rw [listedT_args]; unfold ktT; rw [List.append_assoc]; rfl
theorem ktsT_join (xs : List Dt) (l : List Kt) : Lib.join ((l.map (ktB xs)).map tl) [124] = ktsT xs true l := by
  unfold ktB
  rw [map_tl_bs]
  exact join_of (ktT xs) (ktsT xs) 124 (fun b => by cases b <;> rfl) (fun x l => by simp [ktsT]) (fun x l => by simp [ktsT]) l
theorem textT_join (xs : List Dt) (l : List Dt) : Lib.join ((l.map (dtB xs)).map tl) [59] = dtsT xs true l := by
  unfold dtB
  rw [map_tl_bs]
  exact join_of (dtT xs) (dtsT xs) 59 (fun b => by cases b <;> rfl) (fun x l => by simp [dtsT, dtT, tl]) (fun x l => by simp [dtsT, dtT, tl]) l
theorem dtT_kts (xs : List Dt) (x : Dt) : tl x.name ++ (61 :: Lib.join ((x.ctors.map (ktB xs)).map tl) [124]) = dtT xs x := by rw [ktsT_join]; rfl
end Go.Proofs.YtcknbkbejifhcaaDoor

namespace Go.Proofs.YtcknbkbejifhcaaDoor
open Go.Shelf Go.RowKit

open Go.Shelf
def Shelflays156_ren : Go.Shelf.Ren := ⟨fun | 156 => 51 | 165 => 68 | 166 => 69 | 169 => 70 | 240 => 79 | 241 => 80 | 276 => 89 | 277 => 90 | n => n, fun | 31 => 51 | 9 => 9 | 3 => 3 | 4 => 4 | 0 => 0 | 20 => 20 | 72 => 91 | 76 => 95 | 70 => 89 | 37 => 22 | 75 => 94 | 127 => 107 | 164 => 117 | 5 => 5 | 80 => 97 | n => n, fun | n => n⟩
theorem Shelflays156 : Go.Proofs.Lays.n156 Tryd.prog Shelflays156_ren := {
  mixed := by kernel_rfl
  f156 := Tryd.func51.trans (congrArg some (by kernel_rfl))
  f165 := Tryd.func68.trans (congrArg some (by kernel_rfl))
  f166 := Tryd.func69.trans (congrArg some (by kernel_rfl))
  f169 := Tryd.func70.trans (congrArg some (by kernel_rfl))
  f240 := Tryd.func79.trans (congrArg some (by kernel_rfl))
  f241 := Tryd.func80.trans (congrArg some (by kernel_rfl))
  f276 := Tryd.func89.trans (congrArg some (by kernel_rfl))
  f277 := Tryd.func90.trans (congrArg some (by kernel_rfl))
  t0 := Tryd.underlying0
  a0 := Tryd.isAgg0
  z0 := Tryd.sizeOf0
  v0 := Tryd.zeroValue0
  t3 := Tryd.underlying3
  a3 := Tryd.isAgg3
  z3 := Tryd.sizeOf3
  v3 := Tryd.zeroValue3
  t4 := Tryd.underlying4
  a4 := Tryd.isAgg4
  z4 := Tryd.sizeOf4
  v4 := Tryd.zeroValue4
  t9 := Tryd.underlying9
  a9 := Tryd.isAgg9
  z9 := Tryd.sizeOf9
  v9 := Tryd.zeroValue9
  t20 := Tryd.underlying20
  a20 := Tryd.isAgg20
  z20 := Tryd.sizeOf20
  v20 := Tryd.zeroValue20
  t31 := Tryd.underlying51
  a31 := Tryd.isAgg51
  z31 := Tryd.sizeOf51
  v31 := Tryd.zeroValue51
  t37 := Tryd.underlying22
  a37 := Tryd.isAgg22
  z37 := Tryd.sizeOf22
  v37 := Tryd.zeroValue22
  t70 := Tryd.underlying89
  a70 := Tryd.isAgg89
  z70 := Tryd.sizeOf89
  v70 := Tryd.zeroValue89
  t72 := Tryd.underlying91
  a72 := Tryd.isAgg91
  z72 := Tryd.sizeOf91
  v72 := Tryd.zeroValue91
  t75 := Tryd.underlying94
  a75 := Tryd.isAgg94
  z75 := Tryd.sizeOf94
  v75 := Tryd.zeroValue94
  t76 := Tryd.underlying95
  a76 := Tryd.isAgg95
  z76 := Tryd.sizeOf95
  v76 := Tryd.zeroValue95
  t127 := Tryd.underlying107
  a127 := Tryd.isAgg107
  z127 := Tryd.sizeOf107
  v127 := Tryd.zeroValue107
  t164 := Tryd.underlying117
  a164 := Tryd.isAgg117
  z164 := Tryd.sizeOf117
  v164 := Tryd.zeroValue117 }
theorem ShelfBuilder_Extra_156 : Builder.Extra Tryd.prog Shelflays156_ren := {
  sizeBuilder := by kernel_rfl
  liesBuilder := by kernel_rfl
  t5 := Tryd.underlying5
  a5 := Tryd.isAgg5
  z5 := Tryd.sizeOf5
  v5 := Tryd.zeroValue5
  infoByte := by kernel_rfl
  cellsByte := by kernel_rfl
  sizeByte := by kernel_rfl
  neB5 := by decide }
open Go.RowKit in
/-- No element: the empty string; the world is as it was. (Whatever the slice's address and capacity: a nil slice too.) (LAID: no walk: one application.) -/
theorem Shelfstrings_Join_none (a : Option Addr) (c : Nat) (sep : ByteArray) (w : World) :
    Calls Tryd.prog 51 #[.slice a 0 c, .string sep] w fun e w' => e = .returned (.string ⟨#[]⟩) ∧ w' = w := Any.strings_Join_none Shelflays156 ShelfBuilder_Extra_156 a c sep w
open Go.RowKit in
/-- strings.Join: "Join concatenates the elements of its first argument to create a single string. The separator string sep is placed between elements in the resulting string.": HOWEVER MANY ELEMENTS. Below the heap's end the world is as it was. (LAID: no walk: one application.) -/
theorem Shelfstrings_Join (bk o c : Nat) (xs : List ByteArray) (sep : ByteArray) (w : World) (hcells : ∀ (j : Nat) x, xs[j]? = some x → w.cell? ⟨bk, o + j, none⟩ = some (.string x)) (hbk : bk < w.heap.size) (hN : xs.length ≤ 140737488355328) (hcap : xs.length ≤ c) (hlen : (Lib.join (xs.map (·.data.toList)) sep.data.toList).length ≤ 140737488355328) :
    Calls Tryd.prog 51 #[.slice (some ⟨bk, o, none⟩) xs.length c, .string sep] w fun e w' => e = .returned (.string ⟨(Lib.join (xs.map (·.data.toList)) sep.data.toList).toArray⟩) ∧ Below w.heap.size w w' := Any.strings_Join Shelflays156 ShelfBuilder_Extra_156 bk o c xs sep w hcells hbk hN hcap hlen

theorem join_call (ss : List ByteArray) (sep : ByteArray) (hl : ss.length ≤ 1000) (hj : (Lib.join (ss.map tl) (tl sep)).length ≤ 1000000) (w : World) (v : Value) (F : List Nat) (hx : Arr w (StrR w) ss v F) (hf : Under w.heap.size F) :
    Calls Tryd.prog 51 #[v, .string sep] w fun e w' => e = .returned (.string (bs (Lib.join (ss.map tl) (tl sep)))) ∧ Below w.heap.size w w' := by
  obtain ⟨A, cap, rfl, hc1, hc2⟩ := hx.form
  rcases Nat.eq_zero_or_pos ss.length with h0 | h0
  · have h1 : ss = [] := List.length_eq_zero_iff.1 h0
    subst h1
    refine (Shelfstrings_Join_none A cap sep w).mono ?_
    rintro e w' ⟨rfl, rfl⟩
    exact ⟨rfl, Below.refl _ _⟩
  · obtain ⟨b, off, rfl⟩ := hx.ptr h0
    have hat := ArrStr.at hx hf (Below.refl _ _) 0 h0
    refine (Shelfstrings_Join b off cap ss sep w (fun j x hj => ?_) hat.1 (by omega) hc1 (by show (Lib.join (ss.map tl) (tl sep)).length ≤ _; omega)).mono ?_
    · obtain ⟨hjl, hje⟩ := List.getElem?_eq_some_iff.1 hj
      rw [← hje]
      exact (ArrStr.at hx hf (Below.refl _ _) j hjl).2
    · rintro e w' ⟨rfl, hb⟩
      exact ⟨rfl, hb⟩
end Go.Proofs.YtcknbkbejifhcaaDoor

namespace Go.Proofs.YtcknbkbejifhcaaDoor
open Go.RowKit

set_option maxRecDepth 100000 in
set_option maxHeartbeats 1600000 in
theorem ctorOk_closure (A : Option Addr) (n cap : Nat) (t : Ty) (w : World) (g : Nat) (hn : n ≤ 9223372036854775807) (hg : w.cell? ⟨g, 0, none⟩ = some (.slice A n cap)) (hgl : g < w.heap.size) :
    Calls Tryd.prog 47 #[.agg #[.int .i64 t.d, .int .i64 t.i], .pointer (some ⟨g, 0, none⟩)] w fun e w' => e = .returned (.bool (!argOkB n t)) ∧ Below w.heap.size w w' := by
  have HN := Lib.hid hn
  clear hn
  go_enter Tryd.func47, Tryd.ntmps47
  go_wp2_with fail
  obtain ⟨W2, hW2⟩ : ∃ W2, W2 = w.alloc (.cells #[.int .i64 t.d, .int .i64 t.i] 44) := ⟨_, rfl⟩
  have hB2 : Below w.heap.size w W2 := by rw [hW2]; exact (Below.refl _ _).alloc (Nat.le_refl _) _
  rw [← hW2]
  clear hW2
  refine (impl_argOk A n cap t W2 HN.out).mono ?_
  rintro e w' ⟨rfl, hB'⟩
  have hB3 := hB2.trans (hB'.mono hB2.size)
  generalize hbb : argOkB n t = bb
  have HBB := Lib.hid hbb
  clear hbb
  go_wp2
  go_ret
  exact ⟨ret_bool (by rw [HBB.out]), hB3⟩

set_option maxRecDepth 100000 in
set_option maxHeartbeats 1600000 in
theorem IndexFunc_Ty (A0 : Option Addr) (n cap0 : Nat) (xs : List Ty) (r : Int) (hr : FirstAt (fun t => !argOkB n t) xs r) (w : World) (x : Value) (F : List Nat) (g : Nat) (hn : n ≤ 9223372036854775807) (hg : w.cell? ⟨g, 0, none⟩ = some (.slice A0 n cap0)) (hgl : g < w.heap.size) (hx : Arr w (TyR w) xs x F) (hF : Under w.heap.size F) :
    Calls Tryd.prog 66 #[x, .func (.func 47) #[] #[.pointer (some ⟨g, 0, none⟩)]] w fun e w' => e = .returned (.int .i64 r) ∧ Below w.heap.size w w' := by
  have HX := Lib.hid hx
  obtain ⟨A, cap, rfl, hc1, hc2⟩ := hx.form
  clear hx
  have HF := Lib.hid hF
  clear hF
  have HG0 := Lib.hid hg
  have HN := Lib.hid hn
  have HR := Lib.hid hr
  clear hg hn hr
  go_enter Tryd.func66, Tryd.ntmps66
  go_wp2
  go_loopw [8] (fun i wr => ∃ k : Nat, k ≤ xs.length ∧ i = .int .i64 k ∧ Hid (∀ j (hj : j < xs.length), j < k → (!argOkB n xs[j]) = false) ∧ Below w.heap.size w wr) (fun i _ => xs.length - (intOf i).toNat)
  case atStart => exact ⟨0, Nat.zero_le _, rfl, fun j hj h => by omega, Below.refl _ _⟩
  case round =>
    obtain ⟨k, hk, rfl, HT, hB⟩ := hrel
    by_cases hlt : k < xs.length
    · have hi0 : (0 : Int) ≤ (k : Int) := by omega
      have hi1 : (k : Int) < (xs.length : Int) := by omega
      obtain ⟨b, off, cs, G, rfl, hb, hcs, hv, -⟩ := HX.out.get TyR_len hlt
      have hbl := HF.out b hb
      have hcs := hcs.same (hB.block b hbl)
      obtain rfl := TyR_form hv
      have c0 := hcs 0 _ rfl
      have c1 := hcs 1 _ rfl
      simp only [Nat.add_zero] at c0
      clear hcs hv hb
      have hbw := Nat.lt_of_lt_of_le hbl hB.size
      go_wp2_with fail
      refine (ctorOk_closure A0 n cap0 xs[k] wr g HN.out ((hB.cell (p := ⟨g, 0, none⟩) hgl).trans HG0.out) (Nat.lt_of_lt_of_le hgl hB.size)).mono ?_
      rintro e w' ⟨rfl, hB'⟩
      have hB3 := hB.trans (hB'.mono hB.size)
      cases hq : argOkB n xs[k] with
      | false =>
        have hf : Hid (r = (k : Int)) := HR.out.hit hlt (by simp [hq]) (fun j hj h => HT.out j hj h)
        clear hq
        go_wp2
        go_ret
        exact ⟨ret_int hf.out.symm, hB3⟩
      | true =>
        have hT2 : Hid (∀ j (hj : j < xs.length), j < k + 1 → (!argOkB n xs[j]) = false) := fun j hj h => by
          rcases Nat.lt_or_ge j k with h2 | h2
          · exact HT.out j hj h2
          · obtain rfl : j = k := by omega
            rw [hq]; rfl
        clear hq
        go_wp2
        go_roundw
        case rel => exact ⟨k + 1, by omega, by go_num, hT2, hB3⟩
        case measure => simp [intOf]; omega
    · have hf : Hid (r = -1) := HR.out.miss (fun j hj => HT.out j hj (by omega))
      go_wp2
      go_ret
      exact ⟨ret_int hf.out.symm, hB⟩

set_option maxRecDepth 100000 in
set_option maxHeartbeats 1600000 in
theorem ContainsFunc_Ty (A0 : Option Addr) (n cap0 : Nat) (xs : List Ty) (w : World) (x : Value) (F : List Nat) (g : Nat) (hn : n ≤ 9223372036854775807) (hg : w.cell? ⟨g, 0, none⟩ = some (.slice A0 n cap0)) (hgl : g < w.heap.size) (hx : Arr w (TyR w) xs x F) (hF : Under w.heap.size F) :
    Calls Tryd.prog 46 #[x, .func (.func 47) #[] #[.pointer (some ⟨g, 0, none⟩)]] w fun e w' => e = .returned (.bool (xs.any fun t => !argOkB n t)) ∧ Below w.heap.size w w' := by
  obtain ⟨r, hr⟩ := FirstAt.ex (fun t => !argOkB n t) xs
  have hf : Hid ((xs.any fun t => !argOkB n t) = decide (0 ≤ r)) := hr.any
  have hcall := IndexFunc_Ty A0 n cap0 xs r hr w x F g hn hg hgl hx hF
  obtain ⟨A, cap, rfl, hc1, hc2⟩ := hx.form
  have HC := Lib.hid hcall
  clear hcall hr hx hF hn hg
  go_enter Tryd.func46, Tryd.ntmps46
  go_wp2_with fail
  refine HC.out.mono ?_
  rintro e w' ⟨rfl, hB'⟩
  go_wp2
  go_ret
  exact ⟨ret_bool hf.out.symm, hB'⟩
theorem any_not_all {α : Type} (p : α → Bool) (l : List α) : (!(l.any fun t => !p t)) = l.all p := by
  induction l with
  | nil => rfl
  | cons x xs ih => rw [List.any_cons, List.all_cons, Bool.not_or, ih, Bool.not_not]

set_option maxRecDepth 100000 in
set_option maxHeartbeats 1600000 in
theorem impl_ctorOk (A0 : Option Addr) (n cap0 : Nat) (c : Kt) (w : World) (cs : List Value) (F : List Nat) (hn : n ≤ 9223372036854775807) (hv : KtR w c cs F) (hF : Under w.heap.size F) :
    Calls Tryd.prog 26 #[.slice A0 n cap0, .agg cs.toArray] w fun e w' => e = .returned (.bool (ctorOkB n c)) ∧ Below w.heap.size w w' := by
  obtain ⟨kv, rfl, ha, hs⟩ := hv
  have HX := Lib.hid ha
  obtain ⟨A, cap, rfl, hc1, hc2⟩ := ha.form
  clear ha
  have HF := Lib.hid hF
  have HS := Lib.hid hs
  have HN := Lib.hid hn
  clear hF hs hn
  go_enter Tryd.func26, Tryd.ntmps26
  go_wp2_with fail
  obtain ⟨W2, hW2⟩ : ∃ W2, W2 = (w.alloc (.cells #[.slice A0 n cap0] 31)).alloc (.cells #[.string c.name, .slice A c.args.length cap, .int .i64 c.idx] 27) := ⟨_, rfl⟩
  have hB2 : Below w.heap.size w W2 := by rw [hW2]; exact ((Below.refl _ _).alloc (Nat.le_refl _) _).alloc (by simp) _
  have k1 : Blk W2 w.heap.size 31 #[.slice A0 n cap0] := by rw [hW2]; exact (Blk.new w _ _).same (Below.heap_alloc _ _ _ (by simp))
  have k2 : Blk W2 (w.heap.size + 1) 27 #[.string c.name, .slice A c.args.length cap, .int .i64 c.idx] := by rw [hW2]; have := Blk.new (w.alloc (.cells #[.slice A0 n cap0] 31)) 27 #[.string c.name, .slice A c.args.length cap, .int .i64 c.idx]; simpa using this
  rw [← hW2]
  clear hW2
  have x0 : W2.cell? ⟨w.heap.size, 0, none⟩ = some (.slice A0 n cap0) := (k1.cell 0).trans (by simp)
  have x1 : W2.cell? ⟨w.heap.size + 1, 1, none⟩ = some (.slice A c.args.length cap) := (k2.cell 1).trans (by simp)
  have x2 : W2.cell? ⟨w.heap.size + 1, 2, none⟩ = some (.int .i64 c.idx) := (k2.cell 2).trans (by simp)
  have hlt0 := k1.lt
  clear k1 k2
  refine (impl_NameValid c.name W2 (by have := HS.out; unfold maxLen; omega)).mono ?_
  rintro e w' ⟨rfl, rfl⟩
  have h0 : ctorOkB n c = (nameOk c.name.data.toList && (decide ((c.args.length : Int) ≤ 3) && (withinB c.idx 0 3 && c.args.all (argOkB n)))) := rfl
  cases hn : nameOk c.name.data.toList with
  | false =>
    have hf : Hid (ctorOkB n c = false) := by rw [h0, hn]; rfl
    clear hn h0
    go_wp2
    go_ret
    exact ⟨ret_bool hf.out.symm, hB2⟩
  | true =>
    rw [hn, Bool.true_and] at h0
    clear hn
    cases hl : decide ((c.args.length : Int) ≤ 3) with
    | false =>
      have hf : Hid (ctorOkB n c = false) := by rw [h0, hl]; rfl
      clear h0
      go_wp2
      go_ret
      exact ⟨ret_bool hf.out.symm, hB2⟩
    | true =>
      rw [hl, Bool.true_and] at h0
      have H0 := Lib.hid h0
      clear h0
      go_wp2_with fail
      refine (impl_within c.idx 0 3 W2).mono ?_
      rintro e w' ⟨rfl, rfl⟩
      cases hi : withinB c.idx 0 3 with
      | false =>
        have hf : Hid (ctorOkB n c = false) := by rw [H0.out, hi]; rfl
        clear hi
        go_wp2
        go_ret
        exact ⟨ret_bool hf.out.symm, hB2⟩
      | true =>
        have hf : Hid (ctorOkB n c = !(c.args.any fun t => !argOkB n t)) := by rw [H0.out, hi, Bool.true_and, any_not_all]; rfl
        clear hi
        go_wp2_with fail
        refine (ContainsFunc_Ty A0 n cap0 c.args W2 _ F w.heap.size HN.out x0 hlt0 (ArrTy.below HX.out hB2 HF.out) (HF.out.mono hB2.size)).mono ?_
        rintro e w' ⟨rfl, hB'⟩
        have hB3 := hB2.trans (hB'.mono hB2.size)
        generalize hbb : (c.args.any fun t => !argOkB n t) = bb
        have HBB := Lib.hid hbb
        clear hbb
        go_wp2
        go_ret
        exact ⟨ret_bool (by rw [hf.out, HBB.out]), hB3⟩
end Go.Proofs.YtcknbkbejifhcaaDoor

namespace Go.Proofs.YtcknbkbejifhcaaDoor
open Go.RowKit

theorem plainElem_bool_inv {H : Type} {P : Program} {e : TypeId} (he : P.underlying e = some .bool) {v : Value} {z : DataW H × List MemPlace} (h : Go.plainElem P e v = some z) : ∃ a, v = .bool a ∧ z = (.lit (.bool a), []) := by
  unfold Go.plainElem at h
  rw [he] at h
  cases v <;> simp at h
  exact ⟨_, rfl, h.symm⟩

theorem lookup_bool {H : Type} {P : Program} {k t e : TypeId} {w : World} {b n : Nat} {D : DataW H} (h : w.ownsMap P k (Go.plainElem P e) b n D) (K : Go.Maps.Keyed P k) (ht : P.underlying t = some (.map k e)) (he : P.underlying e = some .bool) (hz : (zeroValue e).run P w = .ok (.bool false) w)
    {key : Value} {kl : Lit} (hkey : Go.keyOf P k key = some kl) : ∃ c, (Instr.lookup t (.map (some b)) key false).run P w = .ok (.bool c) w ∧ D.atKey kl (.lit (.bool false)) = .lit (.bool c) := by
  obtain ⟨v, ps, hrun, hv⟩ := h.lookup K ht hz (plainElem_bool he false) hkey
  obtain ⟨c, rfl, hc⟩ := plainElem_bool_inv he hv
  simp only [Prod.mk.injEq] at hc
  exact ⟨c, hrun, hc.1⟩
end Go.Proofs.YtcknbkbejifhcaaDoor

namespace Go.Proofs.YtcknbkbejifhcaaDoor
open Go.RowKit

open Go.Maps
def strLit (s : ByteArray) : Lit := .string s.data.toList
theorem strLit_same (a b : ByteArray) : (strLit a).sameKey (strLit b) = (a.toList == b.toList) := by
  rw [ByteArray.toList_eq, ByteArray.toList_eq]; rfl
theorem any_same (names : List ByteArray) (s : ByteArray) : ((names.map strLit).any fun x => x.sameKey (strLit s)) = nameIn names s := by
  induction names with
  | nil => rfl
  | cons x xs ih => rw [List.map_cons, List.any_cons, ih, strLit_same]; rfl
theorem isKey_str (s : ByteArray) : WideAt.IsKeyLit (strLit s) := trivial
theorem atKey_setOf {H : Type} (u z : DataW H) (k : Lit) (acc : List Lit) (ha : ∀ x ∈ acc, WideAt.IsKeyLit x) (hk : WideAt.IsKeyLit k) : (setOf u acc).atKey k z = if acc.any (fun x => x.sameKey k) then u else z := by
  cases h : acc.any (fun x => x.sameKey k) with
  | false =>
    rw [if_neg (by simp)]
    exact atKey_of_not_has ((has_setOf u k acc ha).trans h) z
  | true =>
    rw [if_pos rfl]
    revert h
    have key : ∀ n (acc : List Lit), acc.length = n → (∀ x ∈ acc, WideAt.IsKeyLit x) → acc.any (fun x => x.sameKey k) = true → (setOf u acc).atKey k z = u := by
      intro n
      induction n with
      | zero => intro acc hl _ h; rw [List.length_eq_zero_iff.1 hl] at h; simp at h
      | succ n ih =>
        intro acc hl ha h
        obtain ⟨l, x, rfl⟩ : ∃ l x, acc = l ++ [x] := ⟨acc.dropLast, acc.getLast (by intro e; rw [e] at hl; simp at hl), (List.dropLast_concat_getLast _).symm⟩
        rw [setOf_snoc]
        have hl' : ∀ y ∈ l, WideAt.IsKeyLit y := fun y hy => ha y (List.mem_append.2 (.inl hy))
        by_cases e : k = x
        · subst e
          exact atKey_put_same (tidy_setOf u l hl').isMap hk u z
        · rw [atKey_put_other e]
          refine ih l (by simpa using hl) hl' ?_
          rw [List.any_append, Bool.or_eq_true] at h
          rcases h with h | h
          · exact h
          · simp only [List.any_cons, List.any_nil, Bool.or_false] at h
            exact absurd ((WideAt.sameKey_iff hk).1 h).symm e
    exact key _ acc rfl ha

theorem lawS : Maps.Keyed Tryd.prog 9 := string_keyed Tryd.underlying9
theorem zeroB (w : World) : (zeroValue 4).run Tryd.prog w = .ok (.bool false) w := by kernel_rfl

/-- block b is a map[string]bool of the call's own whose keys are these names -/
def OwnsNames (w : World) (b : Nat) (names : List ByteArray) : Prop := w.ownsMap (H := Unit) Tryd.prog 9 (Go.plainElem Tryd.prog 4) b names.length (setOf (.lit (.bool true)) (names.map strLit))
theorem OwnsNames.made (w : World) : OwnsNames (w.alloc (.map #[] 0)) w.heap.size [] := World.ownsMap_made w _ _ _
theorem OwnsNames.kept {w w' : World} {b : Nat} {names : List ByteArray} {row : Option Nat} (h : OwnsNames w b names) (hg : w.grownBy w' row) (hne : some b ≠ row) : OwnsNames w' b names := World.ownsMap.kept h hg hne
theorem OwnsNames.below {w w' : World} {b : Nat} {names : List ByteArray} (h : OwnsNames w b names) (hb : Below w.heap.size w w') : OwnsNames w' b names :=
  h.kept (row := none) ⟨hb.os, hb.tape, hb.output, hb.size, fun k hk _ => hb.block k hk⟩ (by simp)
theorem OwnsNames.alloc {w : World} {b : Nat} {names : List ByteArray} (h : OwnsNames w b names) (o : Obj) : OwnsNames (w.alloc o) b names := World.ownsMap.alloc h o
theorem OwnsNames.lt {w : World} {b : Nat} {names : List ByteArray} (h : OwnsNames w b names) : b < w.heap.size := World.ownsMap.lt h
theorem keyS (s : ByteArray) (hs : s.size ≤ maxLen) : Go.keyOf Tryd.prog 9 (.string s) = some (strLit s) := Go.WideMaps.keyOf_string_mk Tryd.underlying9 hs
theorem OwnsNames.look {w : World} {b : Nat} {names : List ByteArray} (h : OwnsNames w b names) (s : ByteArray) (hs : s.size ≤ maxLen) : (Instr.lookup 54 (.map (some b)) (.string s) false).run Tryd.prog w = .ok (.bool (nameIn names s)) w := by
  obtain ⟨c, hr, hc⟩ := lookup_bool h lawS Tryd.underlying54 Tryd.underlying4 (zeroB w) (keyS s hs)
  rw [hr, atKey_setOf _ _ _ _ (fun x hx => by obtain ⟨y, -, rfl⟩ := List.mem_map.1 hx; exact isKey_str y) (isKey_str s), any_same] at *
  cases hn : nameIn names s <;> rw [hn] at hc
  · rw [if_neg (by simp)] at hc; cases hc; rfl
  · rw [if_pos rfl] at hc; cases hc; rfl
theorem OwnsNames.put {w : World} {b : Nat} {names : List ByteArray} (h : OwnsNames w b names) (s : ByteArray) (w' : World) (h' : w'.ownsMap (H := Unit) Tryd.prog 9 (Go.plainElem Tryd.prog 4) b (names.length + 1) ((setOf (.lit (.bool true)) (names.map strLit)).put (strLit s) (.lit (.bool true)))) : OwnsNames w' b (names ++ [s]) := by
  unfold OwnsNames
  rw [List.map_append, List.map_cons, List.map_nil, setOf_snoc, List.length_append]
  exact h'
theorem OwnsNames.add {w : World} {b : Nat} {names : List ByteArray} (h : OwnsNames w b names) (hn : names.length < 1000000) (s : ByteArray) (hs : s.size ≤ maxLen) :
    ∃ w', (Instr.mapUpdate 54 (.map (some b)) (.string s) (.bool true)).run Tryd.prog w = .ok () w' ∧ OwnsNames w' b (names ++ [s]) ∧ w.grownBy w' (some b) := by
  obtain ⟨w', hr, h1, h2⟩ := World.ownsMap.update h lawS Tryd.underlying54 (by unfold maxLen; omega) (keyS s hs) (plainElem_bool Tryd.underlying4 true)
  exact ⟨w', hr, h.put s w' h1, h2⟩
theorem ctorNames_len (xs : List Dt) (h : ∀ x ∈ xs, x.ctors.length ≤ 4) : (ctorNames xs).length ≤ 4 * xs.length := by
  induction xs with
  | nil => simp [ctorNames]
  | cons x xs ih =>
    have h1 := h x (by simp)
    have h2 := ih fun y hy => h y (by simp [hy])
    simp only [ctorNames, List.flatMap_cons, List.length_append, List.length_map, List.length_cons] at h2 ⊢
    omega
theorem dname_one {s : ByteArray} (h : s.size = 1) (p : 0 < s.size) : dnameOk s.data.toList = (bigB (s[0]'p) && !(s.toList == [73])) := by
  rw [ByteArray.toList_eq, one_byte s h]
  show (bigB (s[0]'p) && !(s[0] == 73)) = _
  congr 2
  simp
theorem dname_not {s : ByteArray} (h : s.size ≠ 1) : dnameOk s.data.toList = false := by
  have hl : s.data.toList.length ≠ 1 := by simpa using h
  generalize s.data.toList = l at *
  match l, hl with
  | [], _ => rfl
  | [c], hl => simp at hl
  | _ :: _ :: _, _ => rfl

set_option maxRecDepth 100000 in
set_option maxHeartbeats 1600000 in
theorem impl_WorldValid (xs : List Dt) (w : World) (v : Value) (F : List Nat) (hx : Arr w (DtR w) xs v F) (hf : Under w.heap.size F) :
    Calls Tryd.prog 10 #[v] w fun e w' => e = .returned (.bool (worldOk xs)) ∧ Below w.heap.size w w' := by
  obtain ⟨A, cap, rfl, hc1, hc2⟩ := hx.form
  have hn : xs.length ≤ 9223372036854775807 := by omega
  have HX := Lib.hid hx
  have HF := Lib.hid hf
  have HN := Lib.hid hn
  clear hx hf hn
  by_cases h4 : xs.length ≤ 4
  · have H0 := Lib.hid (WInv.zero h4)
    have hmm := @run_makeMap Tryd.prog
    go_enter Tryd.func10, Tryd.ntmps10
    go_wp2
    clear hmm
    have HM0 : Hid (OwnsNames ((w.alloc (.map #[] 0)).alloc (.map #[] 0)) w.heap.size (ctorNames (xs.take 0))) := (OwnsNames.made w).alloc _
    have HD0 : Hid (OwnsNames ((w.alloc (.map #[] 0)).alloc (.map #[] 0)) (w.heap.size + 1) ((xs.take 0).map Dt.name)) := by
      have := OwnsNames.made (w.alloc (.map #[] 0))
      rwa [World.size_alloc] at this
    go_loopw [16] (fun iv wr => ∃ d : Nat, d ≤ xs.length ∧ iv = .int .i64 d ∧ Hid (WInv xs d) ∧ Below w.heap.size w wr ∧ Hid (OwnsNames wr (w.heap.size + 1) ((xs.take d).map Dt.name)) ∧ Hid (OwnsNames wr w.heap.size (ctorNames (xs.take d))) ∧ Hid (∀ x ∈ xs.take d, x.ctors.length ≤ 4) ∧ w.heap.size + 1 < wr.heap.size) (fun iv _ => xs.length - (intOf iv).toNat)
    case atStart => exact ⟨0, Nat.zero_le _, rfl, H0, ((Below.refl _ _).alloc (Nat.le_refl _) _).alloc (by simp) _, HD0, HM0, fun x hx => by simp at hx, by simp⟩
    case round =>
      obtain ⟨d, hd, rfl, HW, hB, HD, HM, H4, hz⟩ := hrel
      by_cases hlt : d < xs.length
      · obtain ⟨b, off, rfl⟩ := HX.out.ptr (by omega)
        obtain ⟨A1, cap1, G1, hb, c0, c1, HK, HG, hs, hn1, hn2⟩ := ArrDt.at HX.out HF.out hB d hlt
        have g1 : (0 : Int) ≤ (d : Int) := by omega
        have g2 : (d : Int) < (xs.length : Int) := by omega
        have hsm : xs[d].name.size ≤ maxLen := by unfold maxLen; exact hs
        have HS := Lib.hid hsm
        clear hs hsm
        have hlk := (HD.out.alloc (.cells #[.string xs[d].name, .slice A1 xs[d].ctors.length cap1] 30)).look xs[d].name HS.out
        by_cases h1 : xs[d].name.size = 1
        · have t1 : ((xs[d].name.size : Int) != 1) = false := by simp [h1]
          have p0 : 0 < xs[d].name.size := by omega
          have hdn := dname_one h1 p0
          clear h1
          cases hlo : decide ((65 : Int) ≤ (xs[d].name[0].toNat : Int)) with
          | false =>
            have t2 : decide ((xs[d].name[0].toNat : Int) < 65) = true := by simp at hlo ⊢; omega
            have hf := Lib.hid (HW.out.bad1 hlt (by rw [hdn]; unfold bigB; rw [hlo]; rfl))
            clear hdn hlo hlk
            go_wp2
            go_ret
            exact ⟨ret_bool hf.out.symm, hB.alloc hB.size _⟩
          | true =>
            have t2 : decide ((xs[d].name[0].toNat : Int) < 65) = false := by simp at hlo ⊢; omega
            cases hhi : decide ((xs[d].name[0].toNat : Int) ≤ 90) with
            | false =>
              have t3 : decide ((xs[d].name[0].toNat : Int) > 90) = true := by simp at hhi ⊢; omega
              have hf := Lib.hid (HW.out.bad1 hlt (by rw [hdn]; unfold bigB; rw [hlo, hhi]; rfl))
              clear hdn hlo hhi hlk
              go_wp2
              go_ret
              exact ⟨ret_bool hf.out.symm, hB.alloc hB.size _⟩
            | true =>
              have t3 : decide ((xs[d].name[0].toNat : Int) > 90) = false := by simp at hhi ⊢; omega
              have hbig : bigB xs[d].name[0] = true := by unfold bigB; rw [hlo, hhi]; rfl
              clear hlo hhi
              rw [hbig, Bool.true_and] at hdn
              clear hbig
              cases t4 : (xs[d].name.toList == [73]) with
              | true =>
                have hf := Lib.hid (HW.out.bad1 hlt (by rw [hdn, t4]; rfl))
                clear hdn hlk
                go_wp2
                go_ret
                exact ⟨ret_bool hf.out.symm, hB.alloc hB.size _⟩
              | false =>
                rw [t4] at hdn
                have HDN := Lib.hid hdn
                clear hdn
                cases e3 : nameIn ((xs.take d).map Dt.name) xs[d].name with
                | true =>
                  have hf := Lib.hid (HW.out.bad3 hlt e3)
                  rw [e3] at hlk
                  clear e3
                  go_wp2
                  go_ret
                  exact ⟨ret_bool hf.out.symm, hB.alloc hB.size _⟩
                | false =>
                  rw [e3] at hlk
                  have HE3 := Lib.hid e3
                  clear e3
                  cases e4 : withinB (xs[d].ctors.length : Int) 1 4 with
                  | false =>
                    have hf := Lib.hid (HW.out.bad2 hlt e4)
                    have HE4 := Lib.hid e4
                    clear e4
                    go_wp2_with fail
                    refine (impl_within (xs[d].ctors.length : Int) 1 4 _).mono ?_
                    rintro e w2 ⟨rfl, rfl⟩
                    rw [HE4.out]
                    go_wp2
                    go_ret
                    exact ⟨ret_bool hf.out.symm, hB.alloc hB.size _⟩
                  | true =>
                    have HK0 := Lib.hid (HW.out.goI hlt HDN.out e4 HE3.out)
                    have h5 : xs[d].ctors.length ≤ 4 := by have := (withinB_iff _ _ _).1 e4; omega
                    have H5 := Lib.hid h5
                    have HE4 := Lib.hid e4
                    clear e4 h5
                    obtain ⟨w2, hrun2, hm2, hg2⟩ := (HD.out.alloc (.cells #[.string xs[d].name, .slice A1 xs[d].ctors.length cap1] 30)).add (by rw [List.length_map, List.length_take]; omega) xs[d].name HS.out
                    have k2 := Blk.new wr 30 #[.string xs[d].name, .slice A1 xs[d].ctors.length cap1]
                    have k3 := k2.same (hg2.block _ k2.lt (by have := HD.out.lt; simp; omega))
                    have x1 : w2.cell? ⟨wr.heap.size, 1, none⟩ = some (.slice A1 xs[d].ctors.length cap1) := (k3.cell 1).trans (by simp)
                    have hx1 := k3.lt
                    clear k2 k3
                    have hBa : Below w.heap.size w (wr.alloc (.cells #[.string xs[d].name, .slice A1 xs[d].ctors.length cap1] 30)) := hB.alloc hB.size _
                    have hB3 := hBa.grown hg2 hBa.size (fun _ h => by cases h; omega)
                    have HM3 : Hid (OwnsNames w2 w.heap.size (ctorNames (xs.take d) ++ (xs[d].ctors.take 0).map Kt.name)) := by
                      rw [List.take_zero, List.map_nil, List.append_nil]
                      exact (HM.out.alloc _).kept hg2 (by simp)
                    have HD3 : Hid (OwnsNames w2 (w.heap.size + 1) ((xs.take (d + 1)).map Dt.name)) := by
                      rw [take_snoc' xs d hlt, List.map_append]; exact hm2
                    have hz3 : w.heap.size + 1 < w2.heap.size := by have := hg2.size; simp at this; omega
                    clear hm2 hg2 hBa HD HM hz
                    go_wp2_with fail
                    refine (impl_within (xs[d].ctors.length : Int) 1 4 _).mono ?_
                    rintro e w2' ⟨rfl, rfl⟩
                    rw [HE4.out]
                    go_wp2
                    clear x1 hx1 hrun2 hlk t1 t2 t3 t4 c0 c1
                    obtain ⟨wo, hwo⟩ : ∃ wo : World, wo = w2 := ⟨_, rfl⟩
                    go_loopw [60] (fun jv ws => ∃ k : Nat, k ≤ xs[d].ctors.length ∧ jv = .int .i64 k ∧ Hid (KInvI xs d hlt k) ∧ Below w.heap.size w ws ∧ Hid (OwnsNames ws (w.heap.size + 1) ((xs.take (d + 1)).map Dt.name)) ∧ Hid (OwnsNames ws w.heap.size (ctorNames (xs.take d) ++ (xs[d].ctors.take k).map Kt.name)) ∧ w.heap.size + 1 < ws.heap.size) (fun jv _ => xs[d].ctors.length - (intOf jv).toNat)
                    case atStart => exact ⟨0, Nat.zero_le _, rfl, HK0, hB3, HD3, HM3, hz3⟩
                    case round =>
                      clear hwo hz3 hB3 hB
                      obtain ⟨k, hk, rfl, HKI, hB, HD, HM, hz⟩ := hrel
                      by_cases hkl : k < xs[d].ctors.length
                      · obtain ⟨b2, off2, rfl⟩ := HK.out.ptr (by omega)
                        obtain ⟨A3, cap3, G3, hb3, k0, k1, k2, HC, HG3, hs3, -, -⟩ := ArrKt.rep HK.out HG.out hB k hkl
                        have g3 : (0 : Int) ≤ (k : Int) := by omega
                        have g4 : (k : Int) < (xs[d].ctors.length : Int) := by omega
                        have HS3 := Lib.hid hs3
                        clear hs3
                        go_wp2_with fail
                        obtain ⟨W4, hW4⟩ : ∃ W4, W4 = wr.alloc (.cells #[.string xs[d].ctors[k].name, .slice A3 xs[d].ctors[k].args.length cap3, .int .i64 xs[d].ctors[k].idx] 27) := ⟨_, rfl⟩
                        have hb4 : Below wr.heap.size wr W4 := by rw [hW4]; exact (Below.refl _ _).alloc (Nat.le_refl _) _
                        have k4 : Blk W4 wr.heap.size 27 #[.string xs[d].ctors[k].name, .slice A3 xs[d].ctors[k].args.length cap3, .int .i64 xs[d].ctors[k].idx] := by rw [hW4]; exact Blk.new _ _ _
                        rw [← hW4]
                        clear hW4
                        have hB4 := hB.trans (hb4.mono hB.size)
                        refine (impl_ctorOk _ xs.length cap xs[d].ctors[k] W4 _ _ HN.out (HC.out.below hB4 HG3.out) (HG3.out.mono hB4.size)).mono ?_
                        rintro e w5 ⟨rfl, hb5⟩
                        have hB5 := hB4.trans (hb5.mono hB4.size)
                        have k5 := k4.same (hb5.block _ k4.lt)
                        have x0 : w5.cell? ⟨wr.heap.size, 0, none⟩ = some (.string xs[d].ctors[k].name) := (k5.cell 0).trans (by simp)
                        have hx0 := k5.lt
                        clear k4 k5 k0 k1 k2
                        have HD5 := Lib.hid ((HD.out.below hb4).below hb5)
                        have HM5 := Lib.hid ((HM.out.below hb4).below hb5)
                        have hlk := HM5.out.look xs[d].ctors[k].name (by unfold maxLen; exact HS3.out)
                        cases e2 : ctorOkB xs.length xs[d].ctors[k] with
                        | false =>
                          have hf := Lib.hid (HKI.out.bad1 hkl e2)
                          clear e2 hlk
                          go_wp2
                          go_ret
                          exact ⟨ret_bool hf.out.symm, hB5⟩
                        | true =>
                          cases e3 : nameIn (ctorNames (xs.take d) ++ (xs[d].ctors.take k).map Kt.name) xs[d].ctors[k].name with
                          | true =>
                            have hf := Lib.hid (HKI.out.bad2 hkl e3)
                            rw [e3] at hlk
                            clear e2 e3
                            go_wp2
                            go_ret
                            exact ⟨ret_bool hf.out.symm, hB5⟩
                          | false =>
                            have HK3 := Lib.hid (HKI.out.next hkl e2 e3)
                            rw [e3] at hlk
                            clear e2 e3
                            obtain ⟨w6, hrun6, hm6, hg6⟩ := HM5.out.add (by
                              have h1 := ctorNames_len (xs.take d) (fun x hx => H4.out x hx)
                              have h2 : (xs.take d).length ≤ 4 := by rw [List.length_take]; omega
                              have h3 := H5.out
                              simp only [List.length_append, List.length_map, List.length_take]
                              omega) xs[d].ctors[k].name (by unfold maxLen; exact HS3.out)
                            have hB6 := hB5.grown hg6 hB5.size (fun _ h => by cases h; exact Nat.le_refl _)
                            have HD6 := Lib.hid (HD5.out.kept hg6 (by simp))
                            have HM6 : Hid (OwnsNames w6 w.heap.size (ctorNames (xs.take d) ++ (xs[d].ctors.take (k + 1)).map Kt.name)) := by
                              rw [take_snoc' _ k hkl, List.map_append, ← List.append_assoc]; exact hm6
                            have hz6 : w.heap.size + 1 < w6.heap.size := Nat.lt_of_lt_of_le hz (Nat.le_trans hb4.size (Nat.le_trans hb5.size hg6.size))
                            clear hm6 hg6 hb5 hb4 HD5 HM5 hB4 hB5 hB
                            go_wp2
                            go_roundw
                            case rel => exact ⟨k + 1, by omega, by go_num, HK3, hB6, HD6, HM6, hz6⟩
                            case measure => (simp [intOf] <;> omega)
                      · have HW2 := Lib.hid (HKI.out.done (by omega))
                        have HM6 : Hid (OwnsNames wr w.heap.size (ctorNames (xs.take (d + 1)))) := by
                          have h := HM.out
                          rw [List.take_of_length_le (show xs[d].ctors.length ≤ k by omega), ← ctorNames_snoc, ← take_snoc' xs d hlt] at h
                          exact h
                        have H6 : Hid (∀ x ∈ xs.take (d + 1), x.ctors.length ≤ 4) := fun x hx => by
                          rw [take_snoc' xs d hlt] at hx
                          rcases List.mem_append.1 hx with h | h
                          · exact H4.out x h
                          · rw [List.mem_singleton.1 h]; exact H5.out
                        go_wp2
                        go_roundw
                        case rel => exact ⟨d + 1, by omega, by go_num, HW2, hB, HD, HM6, H6, hz⟩
                        case measure => (simp [intOf] <;> omega)
        · have t1 : ((xs[d].name.size : Int) != 1) = true := by simp; omega
          have hf := Lib.hid (HW.out.bad1 hlt (dname_not h1))
          clear h1 hlk
          go_wp2
          go_ret
          exact ⟨ret_bool hf.out.symm, hB.alloc hB.size _⟩
      · have hf := Lib.hid (HW.out.done (by omega))
        go_wp2
        go_ret
        exact ⟨ret_bool hf.out.symm, hB⟩
  · have hf := Lib.hid (worldOk_long h4)
    go_enter Tryd.func10, Tryd.ntmps10
    go_wp2
    go_ret
    exact ⟨ret_bool hf.out.symm, Below.refl _ _⟩
end Go.Proofs.YtcknbkbejifhcaaDoor

namespace Go.Proofs.YtcknbkbejifhcaaDoor
open Go.RowKit

set_option maxRecDepth 100000 in
set_option maxHeartbeats 1600000 in
theorem impl_typeOk (A : Option Addr) (n cap : Nat) (t : Ty) (w : World) (hn : n ≤ 9223372036854775807) : Calls Tryd.prog 60 #[.slice A n cap, .agg #[.int .i64 t.d, .int .i64 t.i]] w fun e w' => e = .returned (.bool (typeOkB n t)) ∧ Below w.heap.size w w' := by
  cases h0 : (t.d == -1) with
  | true =>
    cases h1 : (t.i == 0) with
    | true =>
      have hf : Hid (typeOkB n t = true) := by unfold Hid typeOkB; rw [if_pos (by simpa using h0), h1]
      go_enter Tryd.func60, Tryd.ntmps60
      go_wp2
      go_ret
      exact ⟨ret_bool hf.out.symm, (Below.refl _ _).alloc (Nat.le_refl _) _⟩
    | false =>
      have hf : Hid (typeOkB n t = false) := by unfold Hid typeOkB; rw [if_pos (by simpa using h0), h1]
      have hw : Hid (withinB t.d 0 ((n : Int) - 1) = false) := by
        have : t.d = -1 := by simpa using h0
        exact withinB_lo (by rw [this]; rfl)
      go_enter Tryd.func60, Tryd.ntmps60
      go_wp2_with fail
      refine (impl_within t.d 0 ((n : Int) - 1) _).mono ?_
      rintro e w' ⟨rfl, rfl⟩
      rw [hw.out]
      go_wp2
      go_ret
      exact ⟨ret_bool hf.out.symm, (Below.refl _ _).alloc (Nat.le_refl _) _⟩
  | false =>
    have hf0 : typeOkB n t = (withinB t.d 0 ((n : Int) - 1) && withinB t.i 0 3) := by unfold typeOkB; rw [if_neg (by simpa using h0)]
    cases hw : withinB t.d 0 ((n : Int) - 1) with
    | false =>
      have hf : Hid (typeOkB n t = false) := by rw [hf0, hw]; rfl
      have HW := Lib.hid hw
      clear hf0 hw
      go_enter Tryd.func60, Tryd.ntmps60
      go_wp2_with fail
      refine (impl_within t.d 0 ((n : Int) - 1) _).mono ?_
      rintro e w' ⟨rfl, rfl⟩
      rw [HW.out]
      go_wp2
      go_ret
      exact ⟨ret_bool hf.out.symm, (Below.refl _ _).alloc (Nat.le_refl _) _⟩
    | true =>
      have hf : Hid (typeOkB n t = withinB t.i 0 3) := by rw [hf0, hw]; rfl
      have HW := Lib.hid hw
      clear hf0 hw
      go_enter Tryd.func60, Tryd.ntmps60
      go_wp2_with fail
      refine (impl_within t.d 0 ((n : Int) - 1) _).mono ?_
      rintro e w' ⟨rfl, rfl⟩
      rw [HW.out]
      go_wp2_with fail
      refine (impl_within t.i 0 3 _).mono ?_
      rintro e w' ⟨rfl, rfl⟩
      generalize hbb : withinB t.i 0 3 = bb
      have HBB := Lib.hid hbb
      clear hbb
      go_wp2
      go_ret
      exact ⟨ret_bool (hf.out.trans HBB.out).symm, (Below.refl _ _).alloc (Nat.le_refl _) _⟩

set_option maxRecDepth 100000 in
set_option maxHeartbeats 1600000 in
theorem spec_l1Is (A : Option Addr) (n cap : Nat) (t : Ty) (w : World) : Calls Tryd.prog 57 #[.slice A n cap, .agg #[.int .i64 t.d, .int .i64 t.i]] w fun e w' => e = .returned (.bool (typeOkB n t)) ∧ Below w.heap.size w w' := by
  have h0 := typeOkB_arg n t
  go_enter Tryd.func57, Tryd.ntmps57
  go_wp2_with fail
  obtain ⟨W2, hW2⟩ : ∃ W2, W2 = w.alloc (.cells #[.int .i64 t.d, .int .i64 t.i] 44) := ⟨_, rfl⟩
  have hB2 : Below w.heap.size w W2 := by rw [hW2]; exact (Below.refl _ _).alloc (Nat.le_refl _) _
  have k1 : Blk W2 w.heap.size 44 #[.int .i64 t.d, .int .i64 t.i] := by rw [hW2]; exact Blk.new _ _ _
  rw [← hW2]
  clear hW2
  refine (spec_l1Arg n t W2).mono ?_
  rintro e w' ⟨rfl, hB'⟩
  have hB3 := hB2.trans (hB'.mono hB2.size)
  have k2 := k1.same (hB'.block _ k1.lt)
  have x1 : w'.cell? ⟨w.heap.size, 1, none⟩ = some (.int .i64 t.i) := (k2.cell 1).trans (by simp)
  have hlt := k2.lt
  clear k1 k2
  cases h1 : argOkB n t with
  | false =>
    rw [h1] at h0
    have hf := Lib.hid h0
    clear h0 h1
    go_wp2
    go_ret
    exact ⟨ret_bool hf.out, hB3⟩
  | true =>
    rw [h1, Bool.true_and] at h0
    have hf := Lib.hid h0
    clear h0 h1
    go_wp2
    go_ret
    exact ⟨ret_bool hf.out, hB3⟩

set_option maxRecDepth 100000 in
set_option maxHeartbeats 1600000 in
theorem spec_TypeValid (xs : List Dt) (t : Ty) (w : World) (v : Value) (F : List Nat) (hx : Arr w (DtR w) xs v F) (hf : Under w.heap.size F) :
    Calls Tryd.prog 38 #[v, .agg #[.int .i64 t.d, .int .i64 t.i]] w fun e w' => e = .returned (.bool (typeValidB xs t)) ∧ Below w.heap.size w w' := by
  obtain ⟨A, cap, rfl, hc1, hc2⟩ := hx.form
  have hn : xs.length ≤ 9223372036854775807 := by omega
  have HX := Lib.hid hx
  have HF := Lib.hid hf
  have HN := Lib.hid hn
  clear hx hf hn
  go_enter Tryd.func38, Tryd.ntmps38
  go_wp2_with fail
  obtain ⟨W2, hW2⟩ : ∃ W2, W2 = w.alloc (.cells #[.int .i64 t.d, .int .i64 t.i] 44) := ⟨_, rfl⟩
  have hB2 : Below w.heap.size w W2 := by rw [hW2]; exact (Below.refl _ _).alloc (Nat.le_refl _) _
  have k1 : Blk W2 w.heap.size 44 #[.int .i64 t.d, .int .i64 t.i] := by rw [hW2]; exact Blk.new _ _ _
  rw [← hW2]
  clear hW2
  refine (spec_WorldValid xs W2 _ F (ArrDt.below HX.out hB2 HF.out) (HF.out.mono hB2.size)).mono ?_
  rintro e w' ⟨rfl, hB'⟩
  have hB3 := hB2.trans (hB'.mono hB2.size)
  have k2 := k1.same (hB'.block _ k1.lt)
  have x0 : w'.cell? ⟨w.heap.size, 0, none⟩ = some (.int .i64 t.d) := (k2.cell 0).trans (by simp)
  have x1 : w'.cell? ⟨w.heap.size, 1, none⟩ = some (.int .i64 t.i) := (k2.cell 1).trans (by simp)
  have hlt := k2.lt
  clear k1 k2
  cases h1 : worldOk xs with
  | false =>
    have hf : Hid (typeValidB xs t = false) := by unfold Hid typeValidB; rw [h1]; rfl
    clear h1
    go_wp2
    go_ret
    exact ⟨ret_bool hf.out.symm, hB3⟩
  | true =>
    have hf : Hid (typeValidB xs t = typeOkB xs.length t) := by unfold Hid typeValidB; rw [h1]; rfl
    clear h1
    go_wp2_with fail
    refine (spec_l1Is _ xs.length cap t w').mono ?_
    rintro e w2 ⟨rfl, hB''⟩
    have hB4 := hB3.trans (hB''.mono hB3.size)
    generalize hbb : typeOkB (xs.length : Int) t = bb
    have HBB := Lib.hid hbb
    clear hbb
    go_wp2
    go_ret
    exact ⟨ret_bool (hf.out.trans HBB.out).symm, hB4⟩

set_option maxRecDepth 100000 in
set_option maxHeartbeats 1600000 in
theorem impl_TypeValid (xs : List Dt) (t : Ty) (w : World) (v : Value) (F : List Nat) (hx : Arr w (DtR w) xs v F) (hf : Under w.heap.size F) :
    Calls Tryd.prog 41 #[v, .agg #[.int .i64 t.d, .int .i64 t.i]] w fun e w' => e = .returned (.bool (typeValidB xs t)) ∧ Below w.heap.size w w' := by
  obtain ⟨A, cap, rfl, hc1, hc2⟩ := hx.form
  have hn : xs.length ≤ 9223372036854775807 := by omega
  have HX := Lib.hid hx
  have HF := Lib.hid hf
  have HN := Lib.hid hn
  clear hx hf hn
  go_enter Tryd.func41, Tryd.ntmps41
  go_wp2_with fail
  obtain ⟨W2, hW2⟩ : ∃ W2, W2 = w.alloc (.cells #[.int .i64 t.d, .int .i64 t.i] 44) := ⟨_, rfl⟩
  have hB2 : Below w.heap.size w W2 := by rw [hW2]; exact (Below.refl _ _).alloc (Nat.le_refl _) _
  have k1 : Blk W2 w.heap.size 44 #[.int .i64 t.d, .int .i64 t.i] := by rw [hW2]; exact Blk.new _ _ _
  rw [← hW2]
  clear hW2
  refine (impl_WorldValid xs W2 _ F (ArrDt.below HX.out hB2 HF.out) (HF.out.mono hB2.size)).mono ?_
  rintro e w' ⟨rfl, hB'⟩
  have hB3 := hB2.trans (hB'.mono hB2.size)
  have k2 := k1.same (hB'.block _ k1.lt)
  have x0 : w'.cell? ⟨w.heap.size, 0, none⟩ = some (.int .i64 t.d) := (k2.cell 0).trans (by simp)
  have x1 : w'.cell? ⟨w.heap.size, 1, none⟩ = some (.int .i64 t.i) := (k2.cell 1).trans (by simp)
  have hlt := k2.lt
  clear k1 k2
  cases h1 : worldOk xs with
  | false =>
    have hf : Hid (typeValidB xs t = false) := by unfold Hid typeValidB; rw [h1]; rfl
    clear h1
    go_wp2
    go_ret
    exact ⟨ret_bool hf.out.symm, hB3⟩
  | true =>
    have hf : Hid (typeValidB xs t = typeOkB xs.length t) := by unfold Hid typeValidB; rw [h1]; rfl
    clear h1
    go_wp2_with fail
    refine (impl_typeOk _ xs.length cap t w' HN.out).mono ?_
    rintro e w2 ⟨rfl, hB''⟩
    have hB4 := hB3.trans (hB''.mono hB3.size)
    generalize hbb : typeOkB (xs.length : Int) t = bb
    have HBB := Lib.hid hbb
    clear hbb
    go_wp2
    go_ret
    exact ⟨ret_bool (hf.out.trans HBB.out).symm, hB4⟩
end Go.Proofs.YtcknbkbejifhcaaDoor

namespace Go.Proofs.YtcknbkbejifhcaaDoor
open Go.RowKit

theorem tenDigits (k : Nat) (h : k < 10) : ByteArray.extract ⟨#[48, 49, 50, 51, 52, 53, 54, 55, 56, 57, 97, 98, 99, 100, 101, 102, 103, 104, 105, 106, 107, 108, 109, 110, 111, 112, 113, 114, 115, 116, 117, 118, 119, 120, 121, 122]⟩ k (k + 1) = bs (digT (k : Int)) := by
  have key : ∀ j : Fin 10, ByteArray.extract ⟨#[48, 49, 50, 51, 52, 53, 54, 55, 56, 57, 97, 98, 99, 100, 101, 102, 103, 104, 105, 106, 107, 108, 109, 110, 111, 112, 113, 114, 115, 116, 117, 118, 119, 120, 121, 122]⟩ j.1 (j.1 + 1) = bs (digT (j.1 : Int)) := by decide
  exact key ⟨k, h⟩
set_option maxRecDepth 100000 in
set_option maxHeartbeats 1600000 in
theorem strconv_Itoa (k : Nat) (h : k < 10) (w : World) : Calls Tryd.prog 50 #[.int .i64 (k : Int)] w fun e w' => e = .returned (.string (bs (digT (k : Int)))) ∧ Below w.heap.size w w' := by
  have t1 : decide (0 ≤ (k : Int)) = true := decide_eq_true (by omega)
  have t2 : decide ((k : Int) < 100) = true := decide_eq_true (by omega)
  have t3 : decide ((k : Int) < 10) = true := decide_eq_true (by omega)
  have t2' : decide (k < 100) = true := decide_eq_true (by omega)
  have t3' : decide (k < 10) = true := decide_eq_true (by omega)
  have a1 : IntKind.i64.wrap ((k : Int) + 1) = (k : Int) + 1 := IntWalk.i64_in _ (by omega)
  have g1 : (0 : Int) ≤ (k : Int) := by omega
  have g2 : (k : Int) + 1 ≤ 36 := by omega
  have g3 : (k : Int) ≤ (k : Int) + 1 := by omega
  have g4 : k + 1 ≤ 36 := by omega
  have hf := Lib.hid (tenDigits k h)
  clear h
  go_enter Tryd.func50, Tryd.ntmps50
  go_wp2
  go_ret
  exact ⟨by rw [← hf.out]; rfl, Below.refl _ _⟩

theorem bytes_append_empty (a : ByteArray) : a ++ bs [] = a := tl_inj (by rw [tl_append, tl_bs, List.append_nil])
set_option maxRecDepth 100000 in
set_option maxHeartbeats 1600000 in
theorem impl_typeText (xs : List Dt) (hw : WorldOK xs) (t : Ty) (ht : argOkB xs.length t = true) (w : World) (v : Value) (F : List Nat) (hx : Arr w (DtR w) xs v F) (hf : Under w.heap.size F) :
    Calls Tryd.prog 42 #[v, .agg #[.int .i64 t.d, .int .i64 t.i]] w fun e w' => e = .returned (.string (bs (tyT xs t))) ∧ Below w.heap.size w w' := by
  obtain ⟨A, cap, rfl, hc1, hc2⟩ := hx.form
  have hin := argOkB_in ht
  have HW := Lib.hid hw
  have HX := Lib.hid hx
  have HF := Lib.hid hf
  clear hx hf
  clear hw
  by_cases hd : t.d = -1
  · have t0 : (t.d == -1) = true := by simp [hd]
    have hf : Hid (bs (tyT xs t) = ⟨#[73]⟩) := by unfold Hid tyT; rw [if_pos hd]; rfl
    clear ht hin hd
    go_enter Tryd.func42, Tryd.ntmps42
    go_wp2
    go_ret
    exact ⟨ret_str hf.out.symm, (Below.refl _ _).alloc (Nat.le_refl _) _⟩
  · rcases hin with h | ⟨d, hd2, hdl⟩
    · exact absurd h hd
    have hi : -1 ≤ t.i ∧ t.i ≤ 9 := by
      unfold argOkB at ht
      rw [if_neg hd] at ht
      simp [withinB] at ht
      omega
    obtain ⟨t1, i⟩ := t
    simp only at hd2 hi hd
    subst hd2
    have hf0 : bs (tyT xs ⟨(d : Int), i⟩) = xs[d].name ++ bs (idxT i) := by
      unfold tyT
      rw [if_neg hd]
      simp only
      rw [nameAt_get hdl, ← bs_append, bs_tl]
    have HI : Hid (-1 ≤ i ∧ i ≤ 9) := hi
    have t0 : ((d : Int) == -1) = false := by rw [beq_eq_false_iff_ne]; omega
    clear ht hd hi
    obtain ⟨b, off, rfl⟩ := HX.out.ptr (by omega)
    have g1 : (0 : Int) ≤ (d : Int) := by omega
    have g2 : (d : Int) < (xs.length : Int) := by omega
    have hB0 : Below w.heap.size w (w.alloc (.cells #[.int .i64 (d : Int), .int .i64 i] 44)) := (Below.refl _ _).alloc (Nat.le_refl _) _
    obtain ⟨A1, cap1, G1, hb, c0, c1, HK, HG, hs, hn1, hn2⟩ := ArrDt.at HX.out HF.out hB0 d hdl
    have hns : xs[d].name.size = 1 := dname_len (HW.out.at hdl).name
    have y0 : (w.alloc (.cells #[.int .i64 (d : Int), .int .i64 i] 44)).cell? ⟨w.heap.size, 0, none⟩ = some (.int .i64 (d : Int)) := ((Blk.new w 44 #[.int .i64 (d : Int), .int .i64 i]).cell 0).trans (by simp)
    have y1 : (w.alloc (.cells #[.int .i64 (d : Int), .int .i64 i] 44)).cell? ⟨w.heap.size, 1, none⟩ = some (.int .i64 i) := ((Blk.new w 44 #[.int .i64 (d : Int), .int .i64 i]).cell 1).trans (by simp)
    have klt : w.heap.size < (w.alloc (.cells #[.int .i64 (d : Int), .int .i64 i] 44)).heap.size := by simp
    clear c1 HK HG hn1 hn2 hs
    cases q1 : decide (i > 0) with
    | true =>
      obtain ⟨k, rfl⟩ : ∃ k : Nat, i = (k : Int) := ⟨i.toNat, by have : i > 0 := (by simpa using q1); omega⟩
      have hk : k < 10 := by have := HI.out; omega
      have hkp : 0 < k := by have : (k : Int) > 0 := (by simpa using q1); omega
      have q1' : decide (0 < k) = true := decide_eq_true hkp
      have hf : Hid (bs (tyT xs ⟨(d : Int), (k : Int)⟩) = xs[d].name ++ bs (digT (k : Int))) := by
        unfold Hid; rw [hf0]; unfold idxT; rw [if_neg (by omega), if_neg (by omega)]
      have hds : (bs (digT (k : Int))).size = 1 := by rfl
      clear hf0 hkp
      have hcat : xs[d].name.size + (bs (digT (k : Int))).size ≤ 9223372036854775807 := by omega
      have hcat2 : (xs[d].name.size : Int) + ((bs (digT (k : Int))).size : Int) ≤ 9223372036854775807 := by omega
      have hcat3 : ¬ 9223372036854775807 < (xs[d].name.size : Int) + ((bs (digT (k : Int))).size : Int) := by omega
      have hcat4 : ¬ 9223372036854775807 < xs[d].name.size + (bs (digT (k : Int))).size := by omega
      clear hds hns
      generalize hDD : bs (digT (k : Int)) = DD at *
      have HDD := Lib.hid hDD
      clear hDD
      go_enter Tryd.func42, Tryd.ntmps42
      go_wp2_with fail
      refine wp_region_B (S := fun w' => w'.cell? ⟨w.heap.size, 0, none⟩ = some (.int .i64 (d : Int)) ∧ w'.cell? ⟨w.heap.size, 1, none⟩ = some (.int .i64 (k : Int)) ∧ w'.cell? ⟨b, off + d * 2, none⟩ = some (.string xs[d].name)) (T := fun _ => True) (d := 99) (by kernel_rfl) ?_
      generalize hWA : (w.alloc (.cells #[.int .i64 (d : Int), .int .i64 (k : Int)] 44)) = W2 at *
      clear hWA
      have hS1 : W2.drew.cell? ⟨w.heap.size, 0, none⟩ = some (.int .i64 (d : Int)) ∧ W2.drew.cell? ⟨w.heap.size, 1, none⟩ = some (.int .i64 (k : Int)) ∧ W2.drew.cell? ⟨b, off + d * 2, none⟩ = some (.string xs[d].name) := ⟨y0, y1, c0⟩
      have hT1 : True := trivial
      have hb2 : b < W2.drew.heap.size := hb
      have klt2 : w.heap.size < W2.drew.heap.size := klt
      have hB1 : Below w.heap.size w W2.drew := hB0.drew
      generalize W2.drew = wd at *
      refine wpAnyB_take (i := 0) (v := ?_) rfl (by decide) (by kernel_rfl) (by kernel_rfl) (by kernel_rfl) (fun _ _ _ h => h) (Or.inl ⟨by rfl, ?hy0⟩) hS1 (fun _ => hT1) ?_
      case hy0 => (intro W hSw; obtain ⟨hSa, hSb, hSc⟩ := hSw; (try dsimp only at hSa hSb hSc); go_simp; try with_reducible rfl)
      (try simp only [Act.put, List.getElem_toArray, List.getElem_cons_zero, List.getElem_cons_succ, List.setIfInBounds_toArray, List.set_cons_zero, List.set_cons_succ])
      refine wpAnyB_take (i := 1) (v := ?_) rfl (by decide) (by kernel_rfl) (by kernel_rfl) (by kernel_rfl) (fun _ _ _ h => h) (Or.inl ⟨by rfl, ?hy1⟩) hS1 (fun _ => hT1) ?_
      case hy1 => (intro W hSw; obtain ⟨hSa, hSb, hSc⟩ := hSw; (try dsimp only at hSa hSb hSc); go_simp; try with_reducible rfl)
      (try simp only [Act.put, List.getElem_toArray, List.getElem_cons_zero, List.getElem_cons_succ, List.setIfInBounds_toArray, List.set_cons_zero, List.set_cons_succ])
      refine wpAnyB_take (i := 2) (v := ?_) rfl (by decide) (by kernel_rfl) (by kernel_rfl) (by kernel_rfl) (fun _ _ _ h => h) (Or.inl ⟨by rfl, ?hy2⟩) hS1 (fun _ => hT1) ?_
      case hy2 => (intro W hSw; obtain ⟨hSa, hSb, hSc⟩ := hSw; (try dsimp only at hSa hSb hSc); go_simp; try with_reducible rfl)
      (try simp only [Act.put, List.getElem_toArray, List.getElem_cons_zero, List.getElem_cons_succ, List.setIfInBounds_toArray, List.set_cons_zero, List.set_cons_succ])
      refine wpAnyB_take (i := 3) (v := ?_) rfl (by decide) (by kernel_rfl) (by kernel_rfl) (by kernel_rfl) (fun _ _ _ h => h) (Or.inl ⟨by rfl, ?hy3⟩) hS1 (fun _ => hT1) ?_
      case hy3 => (intro W hSw; obtain ⟨hSa, hSb, hSc⟩ := hSw; (try dsimp only at hSa hSb hSc); go_simp; try with_reducible rfl)
      (try simp only [Act.put, List.getElem_toArray, List.getElem_cons_zero, List.getElem_cons_succ, List.setIfInBounds_toArray, List.set_cons_zero, List.set_cons_succ])
      refine wpAnyB_take (i := 4) (v := ?_) rfl (by decide) (by kernel_rfl) (by kernel_rfl) (by kernel_rfl) (fun _ _ _ h => h) (Or.inl ⟨by rfl, ?hy4⟩) hS1 (fun _ => hT1) ?_
      case hy4 => (intro W hSw; obtain ⟨hSa, hSb, hSc⟩ := hSw; (try dsimp only at hSa hSb hSc); go_simp; try with_reducible rfl)
      (try simp only [Act.put, List.getElem_toArray, List.getElem_cons_zero, List.getElem_cons_succ, List.setIfInBounds_toArray, List.set_cons_zero, List.set_cons_succ])
      refine wpAnyB_take (i := 5) (v := ?_) rfl (by decide) (by kernel_rfl) (by kernel_rfl) (by kernel_rfl) (fun _ _ _ h => h) (Or.inl ⟨by rfl, ?hy5⟩) hS1 (fun _ => hT1) ?_
      case hy5 => (intro W hSw; obtain ⟨hSa, hSb, hSc⟩ := hSw; (try dsimp only at hSa hSb hSc); go_simp; try with_reducible rfl)
      (try simp only [Act.put, List.getElem_toArray, List.getElem_cons_zero, List.getElem_cons_succ, List.setIfInBounds_toArray, List.set_cons_zero, List.set_cons_succ])
      refine wpAnyB_take (i := 6) (v := ?_) rfl (by decide) (by kernel_rfl) (by kernel_rfl) (by kernel_rfl) (fun _ _ _ h => h) (Or.inl ⟨by rfl, ?hy6⟩) hS1 (fun _ => hT1) ?_
      case hy6 => (intro W hSw; obtain ⟨hSa, hSb, hSc⟩ := hSw; (try dsimp only at hSa hSb hSc); go_simp; try with_reducible rfl)
      (try simp only [Act.put, List.getElem_toArray, List.getElem_cons_zero, List.getElem_cons_succ, List.setIfInBounds_toArray, List.set_cons_zero, List.set_cons_succ])
      refine wpAnyB_take (i := 7) (v := ?_) rfl (by decide) (by kernel_rfl) (by kernel_rfl) (by kernel_rfl) (fun _ _ _ h => h) (Or.inl ⟨by rfl, ?hy7⟩) hS1 (fun _ => hT1) ?_
      case hy7 => (intro W hSw; obtain ⟨hSa, hSb, hSc⟩ := hSw; (try dsimp only at hSa hSb hSc); go_simp; try with_reducible rfl)
      (try simp only [Act.put, List.getElem_toArray, List.getElem_cons_zero, List.getElem_cons_succ, List.setIfInBounds_toArray, List.set_cons_zero, List.set_cons_succ])
      refine wpAnyB_ready (rs := [8]) (by kernel_rfl) (by simp) ?_
      refine AllReadyB.cons rfl (fun K hK => ?_) AllReadyB.nil
      go_simp
      go_at_call 50
      with_reducible refine (strconv_Itoa k hk wd).mono ?_
      rintro e w' ⟨rfl, hB'⟩
      rw [HDD.out]
      have hS2 : w'.cell? ⟨w.heap.size, 0, none⟩ = some (.int .i64 (d : Int)) ∧ w'.cell? ⟨w.heap.size, 1, none⟩ = some (.int .i64 (k : Int)) ∧ w'.cell? ⟨b, off + d * 2, none⟩ = some (.string xs[d].name) := ⟨(hB'.cell klt2).trans hS1.1, (hB'.cell klt2).trans hS1.2.1, (hB'.cell hb2).trans hS1.2.2⟩
      dsimp only
      refine hK.out _ _ hS2 (fun _ => trivial) ?_
      clear hK K
      (try simp only [Act.put, List.getElem_toArray, List.getElem_cons_zero, List.getElem_cons_succ, List.setIfInBounds_toArray, List.set_cons_zero, List.set_cons_succ])
      refine wpAnyB_ready (rs := [9]) (by kernel_rfl) (by simp) ?_
      refine AllReadyB.cons rfl (fun K hK => ?_) AllReadyB.nil
      go_simp
      refine hK.out _ _ hS2 (fun _ => trivial) ?_
      clear hK K
      (try simp only [Act.put, List.getElem_toArray, List.getElem_cons_zero, List.getElem_cons_succ, List.setIfInBounds_toArray, List.set_cons_zero, List.set_cons_succ])
      refine wpAnyB_take (i := 10) (v := ?_) rfl (by decide) (by kernel_rfl) (by kernel_rfl) (by kernel_rfl) (fun _ _ _ h => h) (Or.inl ⟨by rfl, ?hy10⟩) hS2 (fun _ => hT1) ?_
      case hy10 => (intro W hSw; obtain ⟨hSa, hSb, hSc⟩ := hSw; (try dsimp only at hSa hSb hSc); go_simp; try with_reducible rfl)
      (try simp only [Act.put, List.getElem_toArray, List.getElem_cons_zero, List.getElem_cons_succ, List.setIfInBounds_toArray, List.set_cons_zero, List.set_cons_succ])
      refine wpAnyB_end (by kernel_rfl) ?_
      have hB3 := hB1.trans (hB'.mono hB1.size)
      clear hS1 hT1 hS2 y0 y1 c0
      go_wp2
      go_ret
      exact ⟨ret_str hf.out.symm, hB3⟩
    | false =>
      have hi0 : ¬ i > 0 := by simpa using q1
      cases q2 : (i == -1) with
      | true =>
        have hi1 : i = -1 := beq_iff_eq.1 q2
        have hf : Hid (bs (tyT xs ⟨(d : Int), i⟩) = xs[d].name ++ ⟨#[42]⟩) := by
          unfold Hid; rw [hf0]; unfold idxT; rw [if_neg (by omega), if_pos hi1]; rfl
        have hcat : xs[d].name.size + 1 ≤ 9223372036854775807 := by omega
        have hcat2 : (xs[d].name.size : Int) + 1 ≤ 9223372036854775807 := by omega
        have hcat3 : ¬ 9223372036854775807 < (xs[d].name.size : Int) + 1 := by omega
        have hcat4 : ¬ 9223372036854775807 < xs[d].name.size + 1 := by omega
        clear hf0 hi0 hi1 hns
        go_enter Tryd.func42, Tryd.ntmps42
        go_wp2
        go_ret
        exact ⟨ret_str hf.out.symm, hB0⟩
      | false =>
        have hi1 : i = 0 := by rw [beq_eq_false_iff_ne] at q2; have := HI.out; omega
        have hf : Hid (bs (tyT xs ⟨(d : Int), i⟩) = xs[d].name) := by
          unfold Hid; rw [hf0]; unfold idxT; rw [if_pos hi1]; exact bytes_append_empty _
        clear hf0 hi0 hi1
        go_enter Tryd.func42, Tryd.ntmps42
        go_wp2
        go_ret
        exact ⟨ret_str hf.out.symm, hB0⟩

/-- the text of a type, empty where it is none -/
def fmtTy (xs : List Dt) (t : Ty) : ByteArray := if typeValidB xs t = true then bs (tyT xs t) else ⟨#[]⟩
theorem fmtTy_yes {xs : List Dt} {t : Ty} (h : typeValidB xs t = true) : fmtTy xs t = bs (tyT xs t) := if_pos h
theorem fmtTy_no {xs : List Dt} {t : Ty} (h : typeValidB xs t = false) : fmtTy xs t = ⟨#[]⟩ := if_neg (by simp [h])

theorem typeOkB_toArg {n : Int} {t : Ty} (h : typeOkB n t = true) : argOkB n t = true := by
  rw [← typeOkB_arg, Bool.and_eq_true] at h
  exact h.1
set_option maxRecDepth 100000 in
set_option maxHeartbeats 1600000 in
theorem impl_FormatType (xs : List Dt) (t : Ty) (w : World) (v : Value) (F : List Nat) (hx : Arr w (DtR w) xs v F) (hf : Under w.heap.size F) :
    Calls Tryd.prog 19 #[v, .agg #[.int .i64 t.d, .int .i64 t.i]] w fun e w' => e = .returned (.string (fmtTy xs t)) ∧ Below w.heap.size w w' := by
  obtain ⟨A, cap, rfl, hc1, hc2⟩ := hx.form
  have HX := Lib.hid hx
  have HF := Lib.hid hf
  clear hx hf
  go_enter Tryd.func19, Tryd.ntmps19
  go_wp2_with fail
  obtain ⟨W2, hW2⟩ : ∃ W2, W2 = w.alloc (.cells #[.int .i64 t.d, .int .i64 t.i] 44) := ⟨_, rfl⟩
  have hB2 : Below w.heap.size w W2 := by rw [hW2]; exact (Below.refl _ _).alloc (Nat.le_refl _) _
  have k1 : Blk W2 w.heap.size 44 #[.int .i64 t.d, .int .i64 t.i] := by rw [hW2]; exact Blk.new _ _ _
  rw [← hW2]
  clear hW2
  refine (impl_TypeValid xs t W2 _ F (ArrDt.below HX.out hB2 HF.out) (HF.out.mono hB2.size)).mono ?_
  rintro e w' ⟨rfl, hB'⟩
  have hB3 := hB2.trans (hB'.mono hB2.size)
  have k2 := k1.same (hB'.block _ k1.lt)
  have x0 : w'.cell? ⟨w.heap.size, 0, none⟩ = some (.int .i64 t.d) := (k2.cell 0).trans (by simp)
  have x1 : w'.cell? ⟨w.heap.size, 1, none⟩ = some (.int .i64 t.i) := (k2.cell 1).trans (by simp)
  have hlt := k2.lt
  clear k1 k2
  cases h1 : typeValidB xs t with
  | false =>
    have hf := Lib.hid (fmtTy_no h1)
    clear h1
    go_wp2
    go_ret
    exact ⟨ret_str hf.out.symm, hB3⟩
  | true =>
    have hf := Lib.hid (fmtTy_yes h1)
    obtain ⟨hw, hto⟩ := typeValid_split h1
    have HW := Lib.hid hw
    have HT := Lib.hid (typeOkB_toArg hto)
    clear h1 hw hto
    go_wp2_with fail
    refine (impl_typeText xs HW.out t HT.out w' _ F (ArrDt.below HX.out hB3 HF.out) (HF.out.mono hB3.size)).mono ?_
    rintro e w2 ⟨rfl, hB4⟩
    have hB5 := hB3.trans (hB4.mono hB3.size)
    rw [← hf.out]
    go_wp2
    go_ret
    exact ⟨rfl, hB5⟩
set_option maxRecDepth 100000 in
set_option maxHeartbeats 1600000 in
theorem spec_FormatType (xs : List Dt) (t : Ty) (w : World) (v : Value) (F : List Nat) (hx : Arr w (DtR w) xs v F) (hf : Under w.heap.size F) :
    Calls Tryd.prog 16 #[v, .agg #[.int .i64 t.d, .int .i64 t.i]] w fun e w' => e = .returned (.string (fmtTy xs t)) ∧ Below w.heap.size w w' := by
  obtain ⟨A, cap, rfl, hc1, hc2⟩ := hx.form
  have HX := Lib.hid hx
  have HF := Lib.hid hf
  clear hx hf
  go_enter Tryd.func16, Tryd.ntmps16
  go_wp2_with fail
  obtain ⟨W2, hW2⟩ : ∃ W2, W2 = w.alloc (.cells #[.int .i64 t.d, .int .i64 t.i] 44) := ⟨_, rfl⟩
  have hB2 : Below w.heap.size w W2 := by rw [hW2]; exact (Below.refl _ _).alloc (Nat.le_refl _) _
  have k1 : Blk W2 w.heap.size 44 #[.int .i64 t.d, .int .i64 t.i] := by rw [hW2]; exact Blk.new _ _ _
  rw [← hW2]
  clear hW2
  refine (spec_TypeValid xs t W2 _ F (ArrDt.below HX.out hB2 HF.out) (HF.out.mono hB2.size)).mono ?_
  rintro e w' ⟨rfl, hB'⟩
  have hB3 := hB2.trans (hB'.mono hB2.size)
  have k2 := k1.same (hB'.block _ k1.lt)
  have x0 : w'.cell? ⟨w.heap.size, 0, none⟩ = some (.int .i64 t.d) := (k2.cell 0).trans (by simp)
  have x1 : w'.cell? ⟨w.heap.size, 1, none⟩ = some (.int .i64 t.i) := (k2.cell 1).trans (by simp)
  have hlt := k2.lt
  clear k1 k2
  cases h1 : typeValidB xs t with
  | false =>
    have hf := Lib.hid (fmtTy_no h1)
    clear h1
    go_wp2
    go_ret
    exact ⟨ret_str hf.out.symm, hB3⟩
  | true =>
    have hf := Lib.hid (fmtTy_yes h1)
    obtain ⟨hw, hto⟩ := typeValid_split h1
    have HW := Lib.hid hw
    have HT := Lib.hid (typeOkB_toArg hto)
    clear h1 hw hto
    go_wp2_with fail
    refine (spec_l1Type xs HW.out t HT.out w' _ F (ArrDt.below HX.out hB3 HF.out) (HF.out.mono hB3.size)).mono ?_
    rintro e w2 ⟨rfl, hB4⟩
    have hB5 := hB3.trans (hB4.mono hB3.size)
    rw [← hf.out]
    go_wp2
    go_ret
    exact ⟨rfl, hB5⟩
end Go.Proofs.YtcknbkbejifhcaaDoor

namespace Go.Proofs.YtcknbkbejifhcaaDoor
open Go.RowKit

def tysB (xs : List Dt) (l : List Ty) (i : Nat) : List ByteArray := (l.take i).map (tyB xs)
def ktsB (xs : List Dt) (l : List Kt) (i : Nat) : List ByteArray := (l.take i).map (ktB xs)
def dtsB (xs : List Dt) (i : Nat) : List ByteArray := (xs.take i).map (dtB xs)
theorem tysB_len (xs : List Dt) (l : List Ty) (i : Nat) : (tysB xs l i).length ≤ i := by unfold tysB; rw [List.length_map, List.length_take]; omega
theorem ktsB_len (xs : List Dt) (l : List Kt) (i : Nat) : (ktsB xs l i).length ≤ i := by unfold ktsB; rw [List.length_map, List.length_take]; omega
theorem dtsB_len (xs : List Dt) (i : Nat) : (dtsB xs i).length ≤ i := by unfold dtsB; rw [List.length_map, List.length_take]; omega
theorem tysB_succ (xs : List Dt) (l : List Ty) (i : Nat) (h : i < l.length) : tysB xs l (i + 1) = tysB xs l i ++ [tyB xs l[i]] := by unfold tysB; rw [take_snoc' l i h, List.map_append]; rfl
theorem ktsB_succ (xs : List Dt) (l : List Kt) (i : Nat) (h : i < l.length) : ktsB xs l (i + 1) = ktsB xs l i ++ [ktB xs l[i]] := by unfold ktsB; rw [take_snoc' l i h, List.map_append]; rfl
theorem dtsB_succ (xs : List Dt) (i : Nat) (h : i < xs.length) : dtsB xs (i + 1) = dtsB xs i ++ [dtB xs xs[i]] := by unfold dtsB; rw [take_snoc' xs i h, List.map_append]; rfl
theorem tysB_all (xs : List Dt) (l : List Ty) {i : Nat} (h : l.length ≤ i) : tysB xs l i = l.map (tyB xs) := by unfold tysB; rw [List.take_of_length_le h]
theorem ktsB_all (xs : List Dt) (l : List Kt) {i : Nat} (h : l.length ≤ i) : ktsB xs l i = l.map (ktB xs) := by unfold ktsB; rw [List.take_of_length_le h]
theorem dtsB_all (xs : List Dt) {i : Nat} (h : xs.length ≤ i) : dtsB xs i = xs.map (dtB xs) := by unfold dtsB; rw [List.take_of_length_le h]
theorem StrR_len' (w : World) (x : ByteArray) (cs : List Value) (F : List Nat) (h : StrR w x cs F) : cs.length = 1 := StrR_len w x cs F h
theorem listedT_len {xs : List Dt} (hw : WorldOK xs) {c : Kt} (hc : KtOk xs.length c) : (listedT (c.args.map (tyB xs))).length ≤ 20 := by
  rw [listedT_args, List.length_append]
  have h1 := argsT_len hw c.args true
  have h2 := closeT_len c
  have h3 := hc.args
  omega
theorem joinArgs_len {xs : List Dt} (hw : WorldOK xs) {c : Kt} (hc : KtOk xs.length c) : (Lib.join ((c.args.map (tyB xs)).map tl) [44]).length ≤ 1000000 := by
  have h := listedT_len hw hc
  unfold listedT at h
  cases hl : c.args with
  | nil => simp [Lib.join, List.intercalate]
  | cons a l =>
    rw [hl, if_neg (by simp)] at h
    simp only [List.length_cons, List.length_append] at h ⊢
    omega
set_option maxRecDepth 100000 in
set_option maxHeartbeats 1600000 in
theorem impl_listed (ss : List ByteArray) (hl : ss.length ≤ 1000) (hj : (Lib.join (ss.map tl) [44]).length ≤ 1000000) (w : World) (v : Value) (F : List Nat) (hx : Arr w (StrR w) ss v F) (hf : Under w.heap.size F) :
    Calls Tryd.prog 49 #[v] w fun e w' => e = .returned (.string (bs (listedT ss))) ∧ Below w.heap.size w w' := by
  obtain ⟨A, cap, rfl, hc1, hc2⟩ := hx.form
  have HX := Lib.hid hx
  have HF := Lib.hid hf
  clear hx hf
  by_cases h0 : ss = []
  · have t0 : ((ss.length : Int) == 0) = true := by rw [h0]; rfl
    have hf : Hid (bs (listedT ss) = ⟨#[]⟩) := by unfold Hid listedT; rw [if_pos h0]; rfl
    clear h0
    go_enter Tryd.func49, Tryd.ntmps49
    go_wp2
    go_ret
    exact ⟨ret_str hf.out.symm, Below.refl _ _⟩
  · have t0 : ((ss.length : Int) == 0) = false := by
      rw [beq_eq_false_iff_ne]; intro h; exact h0 (List.length_eq_zero_iff.1 (by omega))
    have hf0 : bs (listedT ss) = (bs [40] ++ bs (Lib.join (ss.map tl) [44])) ++ bs [41] := by
      unfold listedT; rw [if_neg h0, bs_append, bs_append]; rfl
    have hsz : (bs (Lib.join (ss.map tl) [44])).size ≤ 1000000 := by rw [bs_size]; exact hj
    have HJ := Lib.hid hj
    clear h0 hj
    obtain ⟨J, hJ⟩ : ∃ j, bs (Lib.join (ss.map tl) [44]) = j := ⟨_, rfl⟩
    rw [hJ] at hf0 hsz
    have HJJ := Lib.hid hJ
    have hf := Lib.hid hf0
    clear hJ hf0
    have hj1 : 1 + J.size ≤ 9223372036854775807 := by omega
    have hj3 : ¬ 9223372036854775807 < 1 + J.size := by omega
    have hj4 : 1 + J.size + 1 ≤ 9223372036854775807 := by omega
    have hj5 : ¬ 9223372036854775807 < 1 + J.size + 1 := by omega
    go_enter Tryd.func49, Tryd.ntmps49
    go_wp2_with fail
    refine (join_call ss ⟨#[44]⟩ hl HJ.out w _ F HX.out HF.out).mono ?_
    rintro e w' ⟨rfl, hb'⟩
    rw [show bs (Lib.join (ss.map tl) (tl ⟨#[44]⟩)) = J from HJJ.out]
    go_wp2
    go_ret
    exact ⟨ret_str hf.out.symm, hb'⟩
set_option maxRecDepth 100000 in
set_option maxHeartbeats 40000000 in
theorem impl_worldText (xs : List Dt) (hw : WorldOK xs) (w : World) (v : Value) (F : List Nat) (hx : Arr w (DtR w) xs v F) (hf : Under w.heap.size F) :
    Calls Tryd.prog 27 #[v] w fun e w' => e = .returned (.string (bs (textT xs))) ∧ Below w.heap.size w w' := by
  obtain ⟨A, cap, rfl, hc1, hc2⟩ := hx.form
  have hlen := hw.len
  have HW := Lib.hid hw
  have HX := Lib.hid hx
  have HF := Lib.hid hf
  clear hx hf hw
  obtain ⟨i0, hi, hz0, hz1, hz2⟩ := info_parts info_strE
  have HI := Lib.hid hi
  have HZ0 := Lib.hid hz0
  have HZ1 := Lib.hid hz1
  have HZ2 := Lib.hid hz2
  clear hi hz0 hz1 hz2
  go_enter Tryd.func27, Tryd.ntmps27
  go_wp2
  go_loopw [3, 15] (fun dv iv wr => ∃ d : Nat, d ≤ xs.length ∧ iv = .int .i64 d ∧ Hid (Own wr w.heap.size 9 1 StrR (dtsB xs d) dv []) ∧ Below w.heap.size w wr) (fun _ iv _ => xs.length - (intOf iv).toNat)
  case atStart => exact ⟨0, Nat.zero_le _, rfl, (show Own _ _ _ _ _ (dtsB xs 0) _ _ from Own.nil _ _ _ _ _), Below.refl _ _⟩
  case round =>
    obtain ⟨d, hdl, rfl, HOD, hB⟩ := hrel
    by_cases hd : d < xs.length
    · obtain ⟨b, off, rfl⟩ := HX.out.ptr (by omega)
      obtain ⟨A3, cap3, G3, hb3, n0, n1, HK, HG, -, hk1, hk2⟩ := ArrDt.at HX.out HF.out hB d hd
      have g1 : (0 : Int) ≤ (d : Int) := by omega
      have g2 : (d : Int) < (xs.length : Int) := by omega
      have e1 : decide (d < xs.length) = true := by simpa using hd
      have hbe : Below wr.heap.size wr (wr.alloc (.cells #[.string xs[d].name, .slice A3 xs[d].ctors.length cap3] 30)) := (Below.refl _ _).alloc (Nat.le_refl _) _
      have HODq : Hid (Own (wr.alloc (.cells #[.string xs[d].name, .slice A3 xs[d].ctors.length cap3] 30)) w.heap.size 9 1 StrR (dtsB xs d) u3 []) := HOD.out.below (fun x cs G hk h => StrR_mono _ _ x cs G hk h) hbe
      have hBwq : Below w.heap.size w (wr.alloc (.cells #[.string xs[d].name, .slice A3 xs[d].ctors.length cap3] 30)) := hB.trans (hbe.mono hB.size)
      have KD : Hid (Blk (wr.alloc (.cells #[.string xs[d].name, .slice A3 xs[d].ctors.length cap3] 30)) wr.heap.size 30 #[.string xs[d].name, .slice A3 xs[d].ctors.length cap3]) := Blk.new _ _ _
      have HKN : Hid (wr.heap.size ∉ rowOf u3) := fun h => Nat.lt_irrefl _ (HOD.out.row _ h).2
      have hdc : xs[d].ctors.length ≤ 4 := (HW.out.at hd).hi
      go_wp2
      generalize (wr.alloc (.cells #[.string xs[d].name, .slice A3 xs[d].ctors.length cap3] 30)) = wq at *
      generalize wr.heap.size = kd at *
      clear n0 n1 hb3 hbe HOD hB
      go_loopw [6, 22] (fun cv jv ws => ∃ j : Nat, j ≤ xs[d].ctors.length ∧ jv = .int .i64 j ∧ Hid (Own ws wq.heap.size 9 1 StrR (ktsB xs xs[d].ctors j) cv []) ∧ Below wq.heap.size wq ws) (fun _ jv _ => xs[d].ctors.length - (intOf jv).toNat)
      case atStart => exact ⟨0, Nat.zero_le _, rfl, (show Own _ _ _ _ _ (ktsB xs xs[d].ctors 0) _ _ from Own.nil _ _ _ _ _), Below.refl _ _⟩
      case round =>
        obtain ⟨j, hj, rfl, HOK, hB2⟩ := hrel
        have hBw1 : Below w.heap.size w wr := hBwq.trans (hB2.mono hBwq.size)
        by_cases hjl : j < xs[d].ctors.length
        · obtain ⟨b3, off3, rfl⟩ := HK.out.ptr (by omega)
          obtain ⟨A4, cap4, G4, hb4, p0, p1, p2, HT, HTG, hnm, hc3, hc4⟩ := ArrKt.at HK.out HG.out hBw1 j hjl
          have HKO := Lib.hid (HW.out.ctor hd hjl)
          have hal4 : xs[d].ctors[j].args.length ≤ 3 := HKO.out.args
          have g3 : (0 : Int) ≤ (j : Int) := by omega
          have g4 : (j : Int) < (xs[d].ctors.length : Int) := by omega
          have e2 : decide (j < xs[d].ctors.length) = true := by simpa using hjl
          have hbe : Below wr.heap.size wr (wr.alloc (.cells #[.string xs[d].ctors[j].name, .slice A4 xs[d].ctors[j].args.length cap4, .int .i64 xs[d].ctors[j].idx] 27)) := (Below.refl _ _).alloc (Nat.le_refl _) _
          have HOK2 : Hid (Own (wr.alloc (.cells #[.string xs[d].ctors[j].name, .slice A4 xs[d].ctors[j].args.length cap4, .int .i64 xs[d].ctors[j].idx] 27)) wq.heap.size 9 1 StrR (ktsB xs xs[d].ctors j) u6 []) := HOK.out.below (fun x cs G hk h => StrR_mono _ _ x cs G hk h) hbe
          have hBq2 : Below wq.heap.size wq (wr.alloc (.cells #[.string xs[d].ctors[j].name, .slice A4 xs[d].ctors[j].args.length cap4, .int .i64 xs[d].ctors[j].idx] 27)) := hB2.trans (hbe.mono hB2.size)
          have hBw2 : Below w.heap.size w (wr.alloc (.cells #[.string xs[d].ctors[j].name, .slice A4 xs[d].ctors[j].args.length cap4, .int .i64 xs[d].ctors[j].idx] 27)) := hBw1.trans (hbe.mono hBw1.size)
          have KC : Hid (Blk (wr.alloc (.cells #[.string xs[d].ctors[j].name, .slice A4 xs[d].ctors[j].args.length cap4, .int .i64 xs[d].ctors[j].idx] 27)) wr.heap.size 27 #[.string xs[d].ctors[j].name, .slice A4 xs[d].ctors[j].args.length cap4, .int .i64 xs[d].ctors[j].idx]) := Blk.new _ _ _
          have HNIL : Hid (Own (wr.alloc (.cells #[.string xs[d].ctors[j].name, .slice A4 xs[d].ctors[j].args.length cap4, .int .i64 xs[d].ctors[j].idx] 27)) (wr.alloc (.cells #[.string xs[d].ctors[j].name, .slice A4 xs[d].ctors[j].args.length cap4, .int .i64 xs[d].ctors[j].idx] 27)).heap.size 9 1 StrR (tysB xs xs[d].ctors[j].args 0) (.slice none 0 0) []) := (show Own _ _ _ _ _ (tysB xs xs[d].ctors[j].args 0) _ _ from Own.nil _ _ _ _ _)
          go_wp2
          generalize (wr.alloc (.cells #[.string xs[d].ctors[j].name, .slice A4 xs[d].ctors[j].args.length cap4, .int .i64 xs[d].ctors[j].idx] 27)) = wq2 at *
          generalize wr.heap.size = kc at *
          clear p0 p1 p2 hb4 hbe HOK hB2 hBw1
          go_loopw [9, 29] (fun av iv ws => ∃ i : Nat, i ≤ xs[d].ctors[j].args.length ∧ iv = .int .i64 i ∧ Hid (Own ws wq2.heap.size 9 1 StrR (tysB xs xs[d].ctors[j].args i) av []) ∧ Below wq2.heap.size wq2 ws) (fun _ iv _ => xs[d].ctors[j].args.length - (intOf iv).toNat)
          case atStart => exact ⟨0, Nat.zero_le _, rfl, HNIL, Below.refl _ _⟩
          case round =>
            clear HNIL
            obtain ⟨i, hi, rfl, HOA, hB3⟩ := hrel
            have hBw3 : Below w.heap.size w wr := hBw2.trans (hB3.mono hBw2.size)
            by_cases hil : i < xs[d].ctors[j].args.length
            · obtain ⟨b4, off4, rfl⟩ := HT.out.ptr (by omega)
              obtain ⟨hbt, y0, y1⟩ := ArrTy.at HT.out HTG.out hBw3 i hil
              have g5 : (0 : Int) ≤ (i : Int) := by omega
              have g6 : (i : Int) < (xs[d].ctors[j].args.length : Int) := by omega
              have e3 : decide (i < xs[d].ctors[j].args.length) = true := by simpa using hil
              have hlm := tysB_len xs xs[d].ctors[j].args i
              have hmx : (tysB xs xs[d].ctors[j].args i).length + 1 ≤ maxLen := by unfold maxLen; omega
              have hby : ((tysB xs xs[d].ctors[j].args i).length + 1) * 16 ≤ 140737488355328 := by omega
              have HSU := Lib.hid (tysB_succ xs xs[d].ctors[j].args i hil)
              have HAO : Hid (argOkB xs.length xs[d].ctors[j].args[i] = true) := HKO.out.all _ (List.getElem_mem hil)
              have hbe : Below wr.heap.size wr (wr.alloc (.cells #[.int .i64 xs[d].ctors[j].args[i].d, .int .i64 xs[d].ctors[j].args[i].i] 44)) := (Below.refl _ _).alloc (Nat.le_refl _) _
              have HO4 : Hid (Own (wr.alloc (.cells #[.int .i64 xs[d].ctors[j].args[i].d, .int .i64 xs[d].ctors[j].args[i].i] 44)) wq2.heap.size 9 1 StrR (tysB xs xs[d].ctors[j].args i) u9 []) := HOA.out.below (fun x cs G hk h => StrR_mono _ _ x cs G hk h) hbe
              have hB4 : Below wq2.heap.size wq2 (wr.alloc (.cells #[.int .i64 xs[d].ctors[j].args[i].d, .int .i64 xs[d].ctors[j].args[i].i] 44)) := hB3.trans (hbe.mono hB3.size)
              have hBw4 : Below w.heap.size w (wr.alloc (.cells #[.int .i64 xs[d].ctors[j].args[i].d, .int .i64 xs[d].ctors[j].args[i].i] 44)) := hBw3.trans (hbe.mono hBw3.size)
              obtain ⟨aA, acap, hav, -, -⟩ := HOA.out.form
              subst hav
              go_wp2_with fail
              generalize (wr.alloc (.cells #[.int .i64 xs[d].ctors[j].args[i].d, .int .i64 xs[d].ctors[j].args[i].i] 44)) = w3 at *
              refine (impl_typeText xs HW.out xs[d].ctors[j].args[i] HAO.out w3 _ F (ArrDt.below HX.out hBw4 HF.out) (HF.out.mono hBw4.size)).mono ?_
              rintro e w4 ⟨rfl, hb4⟩
              have HO5 : Hid (Own w4 wq2.heap.size 9 1 StrR (tysB xs xs[d].ctors[j].args i) (.slice aA (tysB xs xs[d].ctors[j].args i).length acap) []) := HO4.out.below (fun x cs G hk h => StrR_mono _ _ x cs G hk h) hb4
              have hB5 : Below wq2.heap.size wq2 w4 := hB4.trans (hb4.mono hB4.size)
              have hbs5 : wq2.heap.size ≤ w4.heap.size := hB5.size
              rw [show bs (tyT xs xs[d].ctors[j].args[i]) = tyB xs xs[d].ctors[j].args[i] from rfl]
              clear y0 y1 hbt hbe HO4 hB4 hBw4 HOA
              go_wp2_with (at_builtin; refine Halt.mk ?_)
              refine Halt.of (wpList_push1 (P := Tryd.prog) rfl _ _ 51 rfl i0 _ 16 Tryd.underlying51 HI.out HZ0.out HZ1.out HZ2.out rfl Nat.zero_lt_one StrR_len StrR_mono (by rfl) HO5.out (tyB xs xs[d].ctors[j].args[i]) 9 [.string (tyB xs xs[d].ctors[j].args[i])] [] _ (by rfl) rfl (by simp [Value.oneCell']) ⟨rfl, rfl⟩ (Under.nil _) (fun _ _ h => by cases h) hmx hby hbs5 ?_)
              intro g cp w5 hown5 hgr5 hat5
              have hrow := HO5.out.row
              have hB6 : Below wq2.heap.size wq2 w5 := (hB5.alloc hB5.size _).grown hgr5 (by simp; omega) (fun g hg => (hrow g (mem_rowOf.2 hg)).1)
              have HO6 := Lib.hid hown5
              clear hown5 hgr5 hat5 hrow HO5 hB5
              go_wp2
              go_roundw
              case rel => exact ⟨i + 1, hil, by go_num, by rw [HSU.out]; exact HO6.out, hB6⟩
              case measure => (simp [intOf] <;> omega)
            · have e3 : decide (i < xs[d].ctors[j].args.length) = false := by simpa using hil
              have hta : tysB xs xs[d].ctors[j].args i = xs[d].ctors[j].args.map (tyB xs) := tysB_all _ _ (by omega)
              have HAR : Hid (Arr wr (StrR wr) (xs[d].ctors[j].args.map (tyB xs)) u9 (if tysB xs xs[d].ctors[j].args i = [] then [] else rowOf u9 ++ [])) := by rw [← hta]; exact HOA.out.arr
              have HRW := Lib.hid HOA.out.row
              have HUA : Hid (Under wr.heap.size (if tysB xs xs[d].ctors[j].args i = [] then [] else rowOf u9 ++ [])) := fun b hb => by
                split at hb
                · cases hb
                · rw [List.append_nil] at hb; exact (HRW.out b hb).2
              generalize (if tysB xs xs[d].ctors[j].args i = [] then [] else rowOf u9 ++ []) = FA at HAR HUA
              have k0 : wr.cell? ⟨kc, 0, none⟩ = some (.string xs[d].ctors[j].name) := (hB3.cell KC.out.lt).trans ((KC.out.cell 0).trans (by simp))
              have k2 : wr.cell? ⟨kc, 2, none⟩ = some (.int .i64 xs[d].ctors[j].idx) := (hB3.cell KC.out.lt).trans ((KC.out.cell 2).trans (by simp))
              have klt : kc < wr.heap.size := Nat.lt_of_lt_of_le KC.out.lt hB3.size
              have hns : xs[d].ctors[j].name.size ≤ 5 := nameOk_len HKO.out.name
              have hll : (bs (listedT (xs[d].ctors[j].args.map (tyB xs)))).size ≤ 20 := by rw [bs_size]; exact listedT_len HW.out HKO.out
              have HJL := Lib.hid (joinArgs_len HW.out HKO.out)
              have hal : (xs[d].ctors[j].args.map (tyB xs)).length ≤ 1000 := by rw [List.length_map]; have := HKO.out.args; omega
              obtain ⟨L, hL⟩ : ∃ l, bs (listedT (xs[d].ctors[j].args.map (tyB xs))) = l := ⟨_, rfl⟩
              rw [hL] at hll
              have HL := Lib.hid hL
              clear hL hta HOA
              have c1 : xs[d].ctors[j].name.size + L.size ≤ 9223372036854775807 := by omega
              have c2 : (xs[d].ctors[j].name.size : Int) + (L.size : Int) ≤ 9223372036854775807 := by omega
              have c3 : ¬ 9223372036854775807 < xs[d].ctors[j].name.size + L.size := by omega
              have hBw5 : Below w.heap.size w wr.drew := hBw3.drew
              have HUAd : Hid (Under wr.drew.heap.size FA) := HUA.out
              have HARd : Hid (Arr wr.drew (StrR wr.drew) (xs[d].ctors[j].args.map (tyB xs)) u9 FA) := ArrStr.mono HAR.out (fun _ _ => rfl)
              go_wp2_with fail
              refine wp_region_B (S := fun w' => w'.cell? ⟨kc, 0, none⟩ = some (.string xs[d].ctors[j].name)) (T := fun _ => True) (d := 99) (by kernel_rfl) ?_
              have hS1 : wr.drew.cell? ⟨kc, 0, none⟩ = some (.string xs[d].ctors[j].name) := k0
              have hT1 : True := trivial
              refine wpAnyB_take (i := 0) (v := ?_) rfl (by decide) (by kernel_rfl) (by kernel_rfl) (by kernel_rfl) (fun _ _ _ h => h) (Or.inl ⟨by rfl, ?hy0⟩) hS1 (fun _ => hT1) ?_
              case hy0 => (intro W hSw; (try dsimp only at hSw); go_simp; try with_reducible rfl)
              (try simp only [Act.put, List.getElem_toArray, List.getElem_cons_zero, List.getElem_cons_succ, List.setIfInBounds_toArray, List.set_cons_zero, List.set_cons_succ])
              refine wpAnyB_take (i := 1) (v := ?_) rfl (by decide) (by kernel_rfl) (by kernel_rfl) (by kernel_rfl) (fun _ _ _ h => h) (Or.inl ⟨by rfl, ?hy1⟩) hS1 (fun _ => hT1) ?_
              case hy1 => (intro W hSw; (try dsimp only at hSw); go_simp; try with_reducible rfl)
              (try simp only [Act.put, List.getElem_toArray, List.getElem_cons_zero, List.getElem_cons_succ, List.setIfInBounds_toArray, List.set_cons_zero, List.set_cons_succ])
              refine wpAnyB_take (i := 2) (v := ?_) rfl (by decide) (by kernel_rfl) (by kernel_rfl) (by kernel_rfl) (fun _ _ _ h => h) (Or.inl ⟨by rfl, ?hy2⟩) hS1 (fun _ => hT1) ?_
              case hy2 => (intro W hSw; (try dsimp only at hSw); go_simp; try with_reducible rfl)
              (try simp only [Act.put, List.getElem_toArray, List.getElem_cons_zero, List.getElem_cons_succ, List.setIfInBounds_toArray, List.set_cons_zero, List.set_cons_succ])
              refine wpAnyB_ready (rs := [3]) (by kernel_rfl) (by simp) ?_
              refine AllReadyB.cons rfl (fun K hK => ?_) AllReadyB.nil
              go_simp
              go_at_call 49
              with_reducible refine (impl_listed (xs[d].ctors[j].args.map (tyB xs)) hal HJL.out wr.drew _ FA HARd.out HUAd.out).mono ?_
              rintro e w' ⟨rfl, hB'⟩
              rw [HL.out]
              have hS2 : w'.cell? ⟨kc, 0, none⟩ = some (.string xs[d].ctors[j].name) := (hB'.cell klt).trans k0
              dsimp only
              refine hK.out _ _ hS2 (fun _ => trivial) ?_
              clear hK K
              (try simp only [Act.put, List.getElem_toArray, List.getElem_cons_zero, List.getElem_cons_succ, List.setIfInBounds_toArray, List.set_cons_zero, List.set_cons_succ])
              refine wpAnyB_ready (rs := [4]) (by kernel_rfl) (by simp) ?_
              refine AllReadyB.cons rfl (fun K hK => ?_) AllReadyB.nil
              go_simp
              refine hK.out _ _ hS2 (fun _ => trivial) ?_
              clear hK K
              (try simp only [Act.put, List.getElem_toArray, List.getElem_cons_zero, List.getElem_cons_succ, List.setIfInBounds_toArray, List.set_cons_zero, List.set_cons_succ])
              refine wpAnyB_take (i := 5) (v := ?_) rfl (by decide) (by kernel_rfl) (by kernel_rfl) (by kernel_rfl) (fun _ _ _ h => h) (Or.inl ⟨by rfl, ?hy5⟩) hS2 (fun _ => hT1) ?_
              case hy5 => (intro W hSw; (try dsimp only at hSw); go_simp; try with_reducible rfl)
              (try simp only [Act.put, List.getElem_toArray, List.getElem_cons_zero, List.getElem_cons_succ, List.setIfInBounds_toArray, List.set_cons_zero, List.set_cons_succ])
              refine wpAnyB_end (by kernel_rfl) ?_
              have hB7 : Below wq2.heap.size wq2 w' := hB3.drew.trans (hB'.mono hB3.size)
              have m2 : w'.cell? ⟨kc, 2, none⟩ = some (.int .i64 xs[d].ctors[j].idx) := (hB'.cell klt).trans k2
              have hBq7 : Below wq.heap.size wq w' := hBq2.trans (hB7.mono hBq2.size)
              have HO7 : Hid (Own w' wq.heap.size 9 1 StrR (ktsB xs xs[d].ctors j) u6 []) := HOK2.out.below (fun x cs G hk h => StrR_mono _ _ x cs G hk h) hB7
              have hlm := ktsB_len xs xs[d].ctors j
              have hmx : (ktsB xs xs[d].ctors j).length + 1 ≤ maxLen := by unfold maxLen; omega
              have hby : ((ktsB xs xs[d].ctors j).length + 1) * 16 ≤ 140737488355328 := by omega
              have HSU := Lib.hid (ktsB_succ xs xs[d].ctors j hjl)
              obtain ⟨kA, kcap, hkv, -, -⟩ := HO7.out.form
              subst hkv
              have HKT : Hid (ktB xs xs[d].ctors[j] = bs (tl xs[d].ctors[j].name ++ (listedT (xs[d].ctors[j].args.map (tyB xs)) ++ endT xs[d].ctors[j]))) := by unfold Hid ktB; rw [ktT_listed]
              clear hS1 hT1 hS2 k0 k2 hB3 hB' hBw3 hBw5 c1 c2 c3 HAR HARd HUA HUAd HJL HRW
              cases q1 : decide (xs[d].ctors[j].idx > 0) with
              | false =>
                have hkt : ktB xs xs[d].ctors[j] = xs[d].ctors[j].name ++ L := by
                  rw [HKT.out, ← HL.out, show endT xs[d].ctors[j] = [] from if_neg (by simpa using q1), List.append_nil, ← bs_append, bs_tl]
                have HK2 := Lib.hid hkt
                clear hkt
                have hbsq : wq.heap.size ≤ w'.heap.size := hBq7.size
                go_wp2_with (at_builtin; refine Halt.mk ?_)
                refine Halt.of (wpList_push1 (P := Tryd.prog) rfl _ _ 51 rfl i0 _ 16 Tryd.underlying51 HI.out HZ0.out HZ1.out HZ2.out rfl Nat.zero_lt_one StrR_len StrR_mono (by rfl) HO7.out (xs[d].ctors[j].name ++ L) 9 [.string (xs[d].ctors[j].name ++ L)] [] _ (by rfl) rfl (by simp [Value.oneCell']) ⟨rfl, rfl⟩ (Under.nil _) (fun _ _ h => by cases h) hmx hby hbsq ?_)
                intro g cp w8 hown8 hgr8 hat8
                have hrow := HO7.out.row
                have hB8 : Below wq.heap.size wq w8 := (hBq7.alloc hBq7.size _).grown hgr8 (by simp; omega) (fun g hg => (hrow g (mem_rowOf.2 hg)).1)
                have HO8 := Lib.hid hown8
                clear hown8 hgr8 hat8 hrow
                go_wp2
                go_roundw
                case rel => exact ⟨j + 1, hjl, by go_num, by rw [HSU.out, HK2.out]; exact HO8.out, hB8⟩
                case measure => (simp [intOf] <;> omega)
              | true =>
                obtain ⟨n, hn⟩ : ∃ n : Nat, xs[d].ctors[j].idx = (n : Int) := ⟨xs[d].ctors[j].idx.toNat, by have := HKO.out.lo; omega⟩
                have hn10 : n < 10 := by have := HKO.out.hi; omega
                have hkt : ktB xs xs[d].ctors[j] = (xs[d].ctors[j].name ++ L) ++ (bs [58] ++ bs (digT (n : Int))) := by
                  rw [HKT.out, ← HL.out, show endT xs[d].ctors[j] = 58 :: digT xs[d].ctors[j].idx from if_pos (by simpa using q1), hn, bs_append, ← bs_tl xs[d].ctors[j].name, bs_append, bs_append, tl_bs, List.append_assoc]
                  rfl
                have HK2 := Lib.hid hkt
                have q2 : decide ((n : Int) > 0) = true := by rw [← hn]; exact q1
                have q3 : decide (0 < n) = true := by simpa using q2
                rw [hn] at m2
                clear hkt hn q1
                have hds : (bs (digT (n : Int))).size = 1 := by rfl
                have hes : (xs[d].ctors[j].name ++ L).size ≤ 25 := by rw [ByteArray.size_append]; omega
                have c4 : 1 + (bs (digT (n : Int))).size ≤ 9223372036854775807 := by omega
                have c5 : ¬ 9223372036854775807 < 1 + (bs (digT (n : Int))).size := by omega
                have c6 : xs[d].ctors[j].name.size + L.size + (1 + (bs (digT (n : Int))).size) ≤ 9223372036854775807 := by omega
                have c7 : ¬ 9223372036854775807 < xs[d].ctors[j].name.size + L.size + (1 + (bs (digT (n : Int))).size) := by omega
                clear hds hes
                go_wp2_with fail
                refine (strconv_Itoa n hn10 w').mono ?_
                rintro e w9 ⟨rfl, hb9⟩
                have hBq9 : Below wq.heap.size wq w9 := hBq7.trans (hb9.mono hBq7.size)
                have HO9 : Hid (Own w9 wq.heap.size 9 1 StrR (ktsB xs xs[d].ctors j) (.slice kA (ktsB xs xs[d].ctors j).length kcap) []) := HO7.out.below (fun x cs G hk h => StrR_mono _ _ x cs G hk h) hb9
                have hbsq : wq.heap.size ≤ w9.heap.size := hBq9.size
                go_wp2_with (at_builtin; refine Halt.mk ?_)
                refine Halt.of (wpList_push1 (P := Tryd.prog) rfl _ _ 51 rfl i0 _ 16 Tryd.underlying51 HI.out HZ0.out HZ1.out HZ2.out rfl Nat.zero_lt_one StrR_len StrR_mono (by rfl) HO9.out ((xs[d].ctors[j].name ++ L) ++ (bs [58] ++ bs (digT (n : Int)))) 9 [.string ((xs[d].ctors[j].name ++ L) ++ (bs [58] ++ bs (digT (n : Int))))] [] _ (by rfl) rfl (by simp [Value.oneCell']) ⟨rfl, rfl⟩ (Under.nil _) (fun _ _ h => by cases h) hmx hby hbsq ?_)
                intro g cp w8 hown8 hgr8 hat8
                have hrow := HO9.out.row
                have hB8 : Below wq.heap.size wq w8 := (hBq9.alloc hBq9.size _).grown hgr8 (by simp; omega) (fun g hg => (hrow g (mem_rowOf.2 hg)).1)
                have HO8 := Lib.hid hown8
                clear hown8 hgr8 hat8 hrow
                go_wp2
                go_roundw
                case rel => exact ⟨j + 1, hjl, by go_num, by rw [HSU.out, HK2.out]; exact HO8.out, hB8⟩
                case measure => (simp [intOf] <;> omega)
        · have e2 : decide (j < xs[d].ctors.length) = false := by simpa using hjl
          have hta : ktsB xs xs[d].ctors j = xs[d].ctors.map (ktB xs) := ktsB_all _ _ (by omega)
          have HAR : Hid (Arr wr (StrR wr) (xs[d].ctors.map (ktB xs)) u6 (if ktsB xs xs[d].ctors j = [] then [] else rowOf u6 ++ [])) := by rw [← hta]; exact HOK.out.arr
          have HRW := Lib.hid HOK.out.row
          have HUA : Hid (Under wr.heap.size (if ktsB xs xs[d].ctors j = [] then [] else rowOf u6 ++ [])) := fun b hb => by
            split at hb
            · cases hb
            · rw [List.append_nil] at hb; exact (HRW.out b hb).2
          generalize (if ktsB xs xs[d].ctors j = [] then [] else rowOf u6 ++ []) = FA at HAR HUA
          have k0 : wr.cell? ⟨kd, 0, none⟩ = some (.string xs[d].name) := (hB2.cell KD.out.lt).trans ((KD.out.cell 0).trans (by simp))
          have klt : kd < wr.heap.size := Nat.lt_of_lt_of_le KD.out.lt hB2.size
          have hdo := HW.out.at hd
          have hns : xs[d].name.size = 1 := dname_len hdo.name
          have hjn : (Lib.join ((xs[d].ctors.map (ktB xs)).map tl) [124]).length ≤ 100 := by
            rw [ktsT_join]
            have h1 := ktsT_len HW.out xs[d].ctors true hdo.all
            have h2 := hdo.hi
            omega
          have HJL : Hid ((Lib.join ((xs[d].ctors.map (ktB xs)).map tl) (tl ⟨#[124]⟩)).length ≤ 1000000) := by
            have h : tl ⟨#[124]⟩ = [124] := rfl
            unfold Hid; rw [h]; omega
          have hal : (xs[d].ctors.map (ktB xs)).length ≤ 1000 := by rw [List.length_map]; have := hdo.hi; omega
          have hll : (bs (Lib.join ((xs[d].ctors.map (ktB xs)).map tl) [124])).size ≤ 100 := by rw [bs_size]; exact hjn
          have hdt : dtB xs xs[d] = (xs[d].name ++ bs [61]) ++ bs (Lib.join ((xs[d].ctors.map (ktB xs)).map tl) [124]) := by
            unfold dtB; rw [← dtT_kts, ← bs_tl xs[d].name, bs_append, bs_append, tl_bs, List.append_assoc]; rfl
          obtain ⟨L, hL⟩ : ∃ l, bs (Lib.join ((xs[d].ctors.map (ktB xs)).map tl) [124]) = l := ⟨_, rfl⟩
          rw [hL] at hll hdt
          have HL := Lib.hid hL
          have HDT := Lib.hid hdt
          clear hL hta HOK hdo hjn hdt
          have c1 : xs[d].name.size + 1 ≤ 9223372036854775807 := by omega
          have c2 : ¬ 9223372036854775807 < xs[d].name.size + 1 := by omega
          have c3 : xs[d].name.size + 1 + L.size ≤ 9223372036854775807 := by omega
          have c4 : ¬ 9223372036854775807 < xs[d].name.size + 1 + L.size := by omega
          clear hns
          have hlm := dtsB_len xs d
          have hmx : (dtsB xs d).length + 1 ≤ maxLen := by unfold maxLen; omega
          have hby : ((dtsB xs d).length + 1) * 16 ≤ 140737488355328 := by omega
          have HSU := Lib.hid (dtsB_succ xs d hd)
          have HOD1 : Hid (Own wr.drew w.heap.size 9 1 StrR (dtsB xs d) u3 []) := HODq.out.below (fun x cs G hk h => StrR_mono _ _ x cs G hk h) hB2.drew
          have hBd : Below w.heap.size w wr.drew := hBw1.drew
          have HUAd : Hid (Under wr.drew.heap.size FA) := HUA.out
          have HARd : Hid (Arr wr.drew (StrR wr.drew) (xs[d].ctors.map (ktB xs)) u6 FA) := ArrStr.mono HAR.out (fun _ _ => rfl)
          go_wp2_with fail
          refine wp_region_B (S := fun w' => w'.cell? ⟨kd, 0, none⟩ = some (.string xs[d].name)) (T := fun _ => True) (d := 99) (by kernel_rfl) ?_
          have hS1 : wr.drew.cell? ⟨kd, 0, none⟩ = some (.string xs[d].name) := k0
          have hT1 : True := trivial
          refine wpAnyB_take (i := 0) (v := ?_) rfl (by decide) (by kernel_rfl) (by kernel_rfl) (by kernel_rfl) (fun _ _ _ h => h) (Or.inl ⟨by rfl, ?hy0⟩) hS1 (fun _ => hT1) ?_
          case hy0 => (intro W hSw; (try dsimp only at hSw); go_simp; try with_reducible rfl)
          (try simp only [Act.put, List.getElem_toArray, List.getElem_cons_zero, List.getElem_cons_succ, List.setIfInBounds_toArray, List.set_cons_zero, List.set_cons_succ])
          refine wpAnyB_take (i := 1) (v := ?_) rfl (by decide) (by kernel_rfl) (by kernel_rfl) (by kernel_rfl) (fun _ _ _ h => h) (Or.inl ⟨by rfl, ?hy1⟩) hS1 (fun _ => hT1) ?_
          case hy1 => (intro W hSw; (try dsimp only at hSw); go_simp; try with_reducible rfl)
          (try simp only [Act.put, List.getElem_toArray, List.getElem_cons_zero, List.getElem_cons_succ, List.setIfInBounds_toArray, List.set_cons_zero, List.set_cons_succ])
          refine wpAnyB_take (i := 2) (v := ?_) rfl (by decide) (by kernel_rfl) (by kernel_rfl) (by kernel_rfl) (fun _ _ _ h => h) (Or.inl ⟨by rfl, ?hy2⟩) hS1 (fun _ => hT1) ?_
          case hy2 => (intro W hSw; (try dsimp only at hSw); go_simp; try with_reducible rfl)
          (try simp only [Act.put, List.getElem_toArray, List.getElem_cons_zero, List.getElem_cons_succ, List.setIfInBounds_toArray, List.set_cons_zero, List.set_cons_succ])
          refine wpAnyB_take (i := 3) (v := ?_) rfl (by decide) (by kernel_rfl) (by kernel_rfl) (by kernel_rfl) (fun _ _ _ h => h) (Or.inl ⟨by rfl, ?hy3⟩) hS1 (fun _ => hT1) ?_
          case hy3 => (intro W hSw; (try dsimp only at hSw); go_simp; try with_reducible rfl)
          (try simp only [Act.put, List.getElem_toArray, List.getElem_cons_zero, List.getElem_cons_succ, List.setIfInBounds_toArray, List.set_cons_zero, List.set_cons_succ])
          refine wpAnyB_take (i := 4) (v := ?_) rfl (by decide) (by kernel_rfl) (by kernel_rfl) (by kernel_rfl) (fun _ _ _ h => h) (Or.inl ⟨by rfl, ?hy4⟩) hS1 (fun _ => hT1) ?_
          case hy4 => (intro W hSw; (try dsimp only at hSw); go_simp; try with_reducible rfl)
          (try simp only [Act.put, List.getElem_toArray, List.getElem_cons_zero, List.getElem_cons_succ, List.setIfInBounds_toArray, List.set_cons_zero, List.set_cons_succ])
          refine wpAnyB_ready (rs := [5]) (by kernel_rfl) (by simp) ?_
          refine AllReadyB.cons rfl (fun K hK => ?_) AllReadyB.nil
          go_simp
          go_at_call 51
          with_reducible refine (join_call (xs[d].ctors.map (ktB xs)) ⟨#[124]⟩ hal HJL.out wr.drew _ FA HARd.out HUAd.out).mono ?_
          rintro e w' ⟨rfl, hB'⟩
          rw [show bs (Lib.join ((xs[d].ctors.map (ktB xs)).map tl) (tl ⟨#[124]⟩)) = L from HL.out]
          have hS2 : w'.cell? ⟨kd, 0, none⟩ = some (.string xs[d].name) := (hB'.cell klt).trans k0
          have HOD2 : Hid (Own w' w.heap.size 9 1 StrR (dtsB xs d) u3 []) := HOD1.out.below (fun x cs G hk h => StrR_mono _ _ x cs G hk h) hB'
          have hBd2 : Below w.heap.size w w' := hBd.trans (hB'.mono hBd.size)
          have hbsd : w.heap.size ≤ w'.heap.size := hBd2.size
          have klt2 : kd < w'.heap.size := Nat.lt_of_lt_of_le klt hB'.size
          obtain ⟨dA, dcap, hdv, -, -⟩ := HOD2.out.form
          subst hdv
          dsimp only
          refine hK.out _ _ hS2 (fun _ => trivial) ?_
          clear hK K
          (try simp only [Act.put, List.getElem_toArray, List.getElem_cons_zero, List.getElem_cons_succ, List.setIfInBounds_toArray, List.set_cons_zero, List.set_cons_succ])
          refine wpAnyB_ready (rs := [6]) (by kernel_rfl) (by simp) ?_
          refine AllReadyB.cons rfl (fun K hK => ?_) AllReadyB.nil
          go_simp
          refine hK.out _ _ hS2 (fun _ => trivial) ?_
          clear hK K
          (try simp only [Act.put, List.getElem_toArray, List.getElem_cons_zero, List.getElem_cons_succ, List.setIfInBounds_toArray, List.set_cons_zero, List.set_cons_succ])
          refine wpAnyB_ready (rs := [7]) (by kernel_rfl) (by simp) ?_
          refine AllReadyB.cons rfl (fun K hK => ?_) AllReadyB.nil
          go_simp
          refine hK.out _ _ ((World.cell?_alloc_lt _ _ _ klt2).trans hS2) (fun _ => trivial) ?_
          clear hK K
          (try simp only [Act.put, List.getElem_toArray, List.getElem_cons_zero, List.getElem_cons_succ, List.setIfInBounds_toArray, List.set_cons_zero, List.set_cons_succ])
          refine wpAnyB_ready (rs := [8]) (by kernel_rfl) (by simp) ?_
          refine AllReadyB.cons rfl (fun K hK => ?_) AllReadyB.nil
          refine step_push1 (P := Tryd.prog) rfl _ _ 51 rfl i0 _ 16 Tryd.underlying51 HI.out HZ0.out HZ1.out HZ2.out rfl Nat.zero_lt_one StrR_len StrR_mono (by rfl) HOD2.out ((xs[d].name ++ bs [61]) ++ L) 9 [.string ((xs[d].name ++ bs [61]) ++ L)] [] _ (by rfl) rfl (by simp [Value.oneCell']) ⟨rfl, rfl⟩ (Under.nil _) (fun _ _ h => by cases h) hmx hby hbsd ?_
          intro g cp w8 hown8 hgr8 hat8
          have hrow := HOD2.out.row
          have l7 : w'.heap.size ≤ (w'.alloc (.cells #[.string ((xs[d].name ++ bs [61]) ++ L)] 9)).heap.size := by rw [World.size_alloc]; exact Nat.le_succ _
          have hB8 : Below w.heap.size w w8 := (hBd2.alloc hbsd _).grown hgr8 (by simp; omega) (fun g hg => (hrow g (mem_rowOf.2 hg)).1)
          have hkn : some kd ≠ (Value.slice dA (dtsB xs d).length dcap).ownBlock := fun e => HKN.out (mem_rowOf.2 e.symm)
          have s8 : w8.cell? ⟨kd, 0, none⟩ = some (.string xs[d].name) := (World.grownBy.cell_far hgr8 ⟨kd, 0, none⟩ (Nat.lt_of_lt_of_le klt2 l7) hkn).trans ((World.cell?_alloc_lt _ _ _ klt2).trans hS2)
          have HO8 := Lib.hid hown8
          refine hK.out _ _ s8 (fun _ => trivial) ?_
          clear hK K
          (try simp only [Act.put, List.getElem_toArray, List.getElem_cons_zero, List.getElem_cons_succ, List.setIfInBounds_toArray, List.set_cons_zero, List.set_cons_succ])
          refine wpAnyB_take (i := 9) (v := ?_) rfl (by decide) (by kernel_rfl) (by kernel_rfl) (by kernel_rfl) (fun _ _ _ h => h) (Or.inl ⟨by rfl, ?hy9⟩) s8 (fun _ => hT1) ?_
          case hy9 => (intro W hSw; (try dsimp only at hSw); go_simp; try with_reducible rfl)
          (try simp only [Act.put, List.getElem_toArray, List.getElem_cons_zero, List.getElem_cons_succ, List.setIfInBounds_toArray, List.set_cons_zero, List.set_cons_succ])
          refine wpAnyB_end (by kernel_rfl) ?_
          clear hS1 hT1 hS2 s8 k0 hown8 hgr8 hat8 hrow l7 hkn c1 c2 c3 c4 HAR HARd HUA HUAd HJL HRW hB2 hB' hBd hBd2
          go_wp2
          go_roundw
          case rel => exact ⟨d + 1, hd, by go_num, by rw [HSU.out, HDT.out]; exact HO8.out, hB8⟩
          case measure => (simp [intOf] <;> omega)
    · have e1 : decide (d < xs.length) = false := by simpa using hd
      have hta : dtsB xs d = xs.map (dtB xs) := dtsB_all _ (by omega)
      have HAR : Hid (Arr wr (StrR wr) (xs.map (dtB xs)) u3 (if dtsB xs d = [] then [] else rowOf u3 ++ [])) := by rw [← hta]; exact HOD.out.arr
      have HRW := Lib.hid HOD.out.row
      have HUA : Hid (Under wr.heap.size (if dtsB xs d = [] then [] else rowOf u3 ++ [])) := fun b hb => by
        split at hb
        · cases hb
        · rw [List.append_nil] at hb; exact (HRW.out b hb).2
      generalize (if dtsB xs d = [] then [] else rowOf u3 ++ []) = FA at HAR HUA
      have hal : (xs.map (dtB xs)).length ≤ 1000 := by rw [List.length_map]; omega
      have hjn : Lib.join ((xs.map (dtB xs)).map tl) [59] = textT xs := textT_join xs xs
      have HJN := Lib.hid hjn
      have HJL : Hid ((Lib.join ((xs.map (dtB xs)).map tl) (tl ⟨#[59]⟩)).length ≤ 1000000) := by
        have h : tl ⟨#[59]⟩ = [59] := rfl
        unfold Hid; rw [h, hjn]; have := textT_len HW.out; omega
      clear hta HOD hjn
      go_wp2_with fail
      refine (join_call (xs.map (dtB xs)) ⟨#[59]⟩ hal HJL.out wr _ FA HAR.out HUA.out).mono ?_
      rintro e w' ⟨rfl, hB'⟩
      rw [show Lib.join ((xs.map (dtB xs)).map tl) (tl ⟨#[59]⟩) = textT xs from HJN.out]
      have hB2 := hB.trans (hB'.mono hB.size)
      go_wp2
      go_ret
      exact ⟨rfl, hB2⟩

/-- the text of a world, empty where it is none -/
def fmtW (xs : List Dt) : ByteArray := if worldOk xs = true then bs (textT xs) else ⟨#[]⟩
set_option maxRecDepth 100000 in
set_option maxHeartbeats 1600000 in
theorem impl_FormatWorld (xs : List Dt) (w : World) (v : Value) (F : List Nat) (hx : Arr w (DtR w) xs v F) (hf : Under w.heap.size F) :
    Calls Tryd.prog 11 #[v] w fun e w' => e = .returned (.string (fmtW xs)) ∧ Below w.heap.size w w' := by
  obtain ⟨A, cap, rfl, hc1, hc2⟩ := hx.form
  have HX := Lib.hid hx
  have HF := Lib.hid hf
  clear hx hf
  go_enter Tryd.func11, Tryd.ntmps11
  go_wp2_with fail
  refine (impl_WorldValid xs w _ F HX.out HF.out).mono ?_
  rintro e w1 ⟨rfl, hb1⟩
  cases q0 : worldOk xs with
  | false =>
    have hf : Hid (fmtW xs = ⟨#[]⟩) := if_neg (by simp [q0])
    clear q0
    go_wp2
    go_ret
    exact ⟨ret_str hf.out.symm, hb1⟩
  | true =>
    have hf : Hid (fmtW xs = bs (textT xs)) := if_pos q0
    have HW := Lib.hid (worldOK q0)
    clear q0
    go_wp2_with fail
    refine (impl_worldText xs HW.out w1 _ F (ArrDt.below HX.out hb1 HF.out) (HF.out.mono hb1.size)).mono ?_
    rintro e w2 ⟨rfl, hb2⟩
    have hB2 := hb1.trans (hb2.mono hb1.size)
    go_wp2
    go_ret
    exact ⟨ret_str hf.out.symm, hB2⟩
end Go.Proofs.YtcknbkbejifhcaaDoor

namespace Go.Proofs.YtcknbkbejifhcaaDoor
open Go.RowKit

theorem worldGo_new {n : Int} : ∀ {ys : List Dt} {datas met : List ByteArray}, worldGo n datas met ys = true → (∀ x ∈ ys, nameIn datas x.name = false) ∧ ys.Pairwise (fun x y => x.name ≠ y.name)
  | [], _, _, _ => ⟨(fun x hx => by cases hx), List.Pairwise.nil⟩
  | y :: ys, datas, met, h => by
    simp only [worldGo, Bool.and_eq_true, Bool.not_eq_true'] at h
    obtain ⟨i1, i2⟩ := worldGo_new h.2.2.2.2
    have hs : ∀ x ∈ ys, nameIn datas x.name = false ∧ y.name ≠ x.name := fun x hx => by
      have h1 := i1 x hx
      unfold nameIn at h1 ⊢
      rw [List.any_append, Bool.or_eq_false_iff] at h1
      refine ⟨h1.1, fun e => ?_⟩
      have h2 := h1.2
      simp [e] at h2
    refine ⟨fun x hx => ?_, List.Pairwise.cons (fun x hx => (hs x hx).2) i2⟩
    rcases List.mem_cons.1 hx with rfl | hx
    · exact h.2.1
    · exact (hs x hx).1
theorem name_inj {xs : List Dt} (h : worldOk xs = true) {d e : Nat} (hd : d < xs.length) (he : e < xs.length) (hn : xs[d].name = xs[e].name) : d = e := by
  unfold worldOk at h
  rw [Bool.and_eq_true] at h
  have hp := List.pairwise_iff_getElem.1 (worldGo_new h.2).2
  rcases Nat.lt_trichotomy d e with h1 | h1 | h1
  · exact absurd hn (hp d e hd he h1)
  · exact h1
  · exact absurd hn.symm (hp e d he hd h1)
theorem dname_ch {s : ByteArray} (h : dnameOk (tl s) = true) : ∃ c : UInt8, tl s = [c] ∧ c ≠ 73 := by
  unfold dnameOk at h
  split at h
  · rename_i c heq
    refine ⟨c, heq, fun e => ?_⟩
    subst e
    simp at h
  · cases h
theorem idxT_inj {i j : Int} (h0 : 0 ≤ i) (h3 : i ≤ 3) (g0 : 0 ≤ j) (g3 : j ≤ 3) (h : idxT i = idxT j) : i = j := by
  obtain ⟨a, rfl⟩ := Int.eq_ofNat_of_zero_le h0
  obtain ⟨b, rfl⟩ := Int.eq_ofNat_of_zero_le g0
  have key : ∀ x y : Fin 4, idxT (x.1 : Int) = idxT (y.1 : Int) → x = y := by decide
  have := key ⟨a, by omega⟩ ⟨b, by omega⟩ h
  have h2 : a = b := congrArg Fin.val this
  rw [h2]
theorem tyT_inj {xs : List Dt} (hw : worldOk xs = true) (hW : WorldOK xs) {t u : Ty} (ht : typeOkB xs.length t = true) (hu : typeOkB xs.length u = true) (h : tyT xs t = tyT xs u) : t = u := by
  have shape : ∀ s : Ty, typeOkB xs.length s = true → (s = ⟨-1, 0⟩ ∧ tyT xs s = [73]) ∨ ∃ (d : Nat) (hd : d < xs.length) (c : UInt8), s.d = (d : Int) ∧ 0 ≤ s.i ∧ s.i ≤ 3 ∧ tl xs[d].name = [c] ∧ c ≠ 73 ∧ tyT xs s = c :: idxT s.i := fun s hs => by
    obtain ⟨sd, si⟩ := s
    by_cases e : sd = -1
    · left
      unfold typeOkB at hs
      rw [if_pos e] at hs
      have hi : si = 0 := by simpa using hs
      subst e hi
      exact ⟨rfl, rfl⟩
    · right
      have hin := typeOkB_in hs
      unfold typeOkB at hs
      rw [if_neg e] at hs
      simp only [withinB, Bool.and_eq_true, decide_eq_true_eq] at hs
      rcases hin with h1 | ⟨d, h1, hd⟩
      · exact absurd h1 e
      · obtain ⟨c, hc, hc73⟩ := dname_ch (hW.at hd).name
        simp only at h1
        refine ⟨d, hd, c, h1, hs.2.1, hs.2.2, hc, hc73, ?_⟩
        unfold tyT
        rw [if_neg e, h1, nameAt_get hd, hc]
        rfl
  rcases shape t ht with ⟨rfl, e1⟩ | ⟨d, hd, c, d1, i0, i3, hc, hc73, e1⟩
  · rcases shape u hu with ⟨rfl, -⟩ | ⟨e, he, c', -, -, -, -, hc73', e2⟩
    · rfl
    · rw [e1, e2] at h
      exact absurd (List.cons.inj h).1.symm hc73'
  · rcases shape u hu with ⟨rfl, e2⟩ | ⟨e, he, c', d2, j0, j3, hc', -, e2⟩
    · rw [e1, e2] at h
      exact absurd (List.cons.inj h).1 hc73
    · rw [e1, e2] at h
      obtain ⟨h1, h2⟩ := List.cons.inj h
      have hde : d = e := name_inj hw hd he (tl_inj (by rw [hc, hc', h1]))
      have hij := idxT_inj i0 i3 j0 j3 h2
      obtain ⟨td, ti⟩ := t
      obtain ⟨ud, ui⟩ := u
      simp only at d1 d2 hij
      rw [d1, d2, hde, hij]
theorem tyT_pos {xs : List Dt} (hW : WorldOK xs) {t : Ty} (ht : typeOkB xs.length t = true) : tyT xs t ≠ [] := by
  unfold tyT
  by_cases e : t.d = -1
  · rw [if_pos e]; simp
  · rw [if_neg e]
    rcases typeOkB_in ht with h1 | ⟨d, h1, hd⟩
    · exact absurd h1 e
    · obtain ⟨c, hc, -⟩ := dname_ch (hW.at hd).name
      rw [h1, nameAt_get hd, hc]
      simp
end Go.Proofs.YtcknbkbejifhcaaDoor

namespace Go.Proofs.YtcknbkbejifhcaaDoor
open Go.RowKit

/-- two stretches of bytes with P, each before an end or a byte without P -/
theorem blkP (P : UInt8 → Prop) : ∀ (a b r r' : List UInt8), (∀ x ∈ a, P x) → (∀ x ∈ b, P x) → (∀ c t, r = c :: t → ¬ P c) → (∀ c t, r' = c :: t → ¬ P c) → a ++ r = b ++ r' → a = b ∧ r = r'
  | [], [], r, r', _, _, _, _, h => ⟨rfl, h⟩
  | [], c :: b, r, r', _, hb, hr, _, h => absurd (hb c (by simp)) (hr c _ h)
  | c :: a, [], r, r', ha, _, _, hr', h => absurd (ha c (by simp)) (hr' c _ h.symm)
  | c :: a, d :: b, r, r', ha, hb, hr, hr', h => by
    simp only [List.cons_append, List.cons.injEq] at h
    obtain ⟨h1, h2⟩ := blkP P a b r r' (fun x hx => ha x (by simp [hx])) (fun x hx => hb x (by simp [hx])) hr hr' h.2
    exact ⟨by rw [h.1, h1], h2⟩
def Let (b : UInt8) : Prop := 65 ≤ b.toNat ∧ b.toNat ≤ 122
def Tyb (b : UInt8) : Prop := (65 ≤ b.toNat ∧ b.toNat ≤ 122) ∨ b.toNat = 42 ∨ (48 ≤ b.toNat ∧ b.toNat ≤ 57)
theorem nameOk_Let {l : List UInt8} (h : nameOk l = true) : l ≠ [] ∧ ∀ b ∈ l, Let b := by
  cases l with
  | nil => cases h
  | cons c l =>
    rw [nameOk_cons] at h
    simp only [Bool.and_eq_true, decide_eq_true_eq] at h
    refine ⟨by simp, fun b hb => ?_⟩
    rcases List.mem_cons.1 hb with rfl | hb
    · exact ⟨h.1.2.1, by omega⟩
    · have h2 := h.2
      unfold lowerAll at h2
      have h3 := List.all_eq_true.1 h2 b hb
      simp only [Bool.and_eq_true, decide_eq_true_eq, UInt8.le_iff_toNat_le] at h3
      have h4 : (97 : UInt8).toNat = 97 := rfl
      have h5 : (122 : UInt8).toNat = 122 := rfl
      exact ⟨by omega, by omega⟩
theorem dname_Let {s : ByteArray} (h : dnameOk (tl s) = true) : ∃ c : UInt8, tl s = [c] ∧ c ≠ 73 ∧ Let c := by
  unfold dnameOk at h
  split at h
  · rename_i c heq
    simp only [Bool.and_eq_true, bigB, decide_eq_true_eq, Bool.not_eq_true', beq_eq_false_iff_ne] at h
    exact ⟨c, heq, h.2, by unfold Let; omega⟩
  · cases h
theorem idxT_inj' {i j : Int} (h0 : -1 ≤ i) (h3 : i ≤ 3) (g0 : -1 ≤ j) (g3 : j ≤ 3) (h : idxT i = idxT j) : i = j := by
  obtain ⟨a, ha⟩ := Int.eq_ofNat_of_zero_le (show 0 ≤ i + 1 by omega)
  obtain ⟨b, hb⟩ := Int.eq_ofNat_of_zero_le (show 0 ≤ j + 1 by omega)
  have key : ∀ x y : Fin 5, idxT ((x.1 : Int) - 1) = idxT ((y.1 : Int) - 1) → x = y := by decide
  have := key ⟨a, by omega⟩ ⟨b, by omega⟩ (by rw [show (a : Int) - 1 = i by omega, show (b : Int) - 1 = j by omega]; exact h)
  have h2 : a = b := congrArg Fin.val this
  omega
theorem idxT_Tyb {i : Int} (h0 : -1 ≤ i) (h3 : i ≤ 3) : ∀ b ∈ idxT i, Tyb b := by
  obtain ⟨a, ha⟩ := Int.eq_ofNat_of_zero_le (show 0 ≤ i + 1 by omega)
  have key : ∀ x : Fin 5, ∀ b ∈ idxT ((x.1 : Int) - 1), (65 ≤ b.toNat ∧ b.toNat ≤ 122) ∨ b.toNat = 42 ∨ (48 ≤ b.toNat ∧ b.toNat ≤ 57) := by decide
  have := key ⟨a, by omega⟩
  rwa [show (a : Int) - 1 = i by omega] at this
/-- what an argument's type is, and its text -/
theorem tyT_shape {xs : List Dt} (hW : WorldOK xs) {s : Ty} (hs : argOkB xs.length s = true) : (s = ⟨-1, 0⟩ ∧ tyT xs s = [73]) ∨ ∃ (d : Nat) (hd : d < xs.length) (c : UInt8), s.d = (d : Int) ∧ -1 ≤ s.i ∧ s.i ≤ 3 ∧ tl xs[d].name = [c] ∧ c ≠ 73 ∧ Let c ∧ tyT xs s = c :: idxT s.i := by
  obtain ⟨sd, si⟩ := s
  by_cases e : sd = -1
  · left
    unfold argOkB at hs
    rw [if_pos e] at hs
    have hi : si = 0 := by simpa using hs
    subst e hi
    exact ⟨rfl, rfl⟩
  · right
    have hin := argOkB_in hs
    unfold argOkB at hs
    rw [if_neg e] at hs
    simp only [withinB, Bool.and_eq_true, decide_eq_true_eq] at hs
    rcases hin with h1 | ⟨d, h1, hd⟩
    · exact absurd h1 e
    · obtain ⟨c, hc, hc73, hl⟩ := dname_Let (hW.at hd).name
      simp only at h1
      refine ⟨d, hd, c, h1, hs.2.1, hs.2.2, hc, hc73, hl, ?_⟩
      unfold tyT
      rw [if_neg e, h1, nameAt_get hd, hc]
      rfl
theorem tyT_Tyb {xs : List Dt} (hW : WorldOK xs) {s : Ty} (hs : argOkB xs.length s = true) : ∀ b ∈ tyT xs s, Tyb b := by
  rcases tyT_shape hW hs with ⟨-, e⟩ | ⟨d, hd, c, -, h0, h3, -, -, hl, e⟩
  · rw [e]; intro b hb; rw [List.mem_singleton] at hb; subst hb; exact .inl (by decide)
  · rw [e]; intro b hb
    rcases List.mem_cons.1 hb with rfl | hb
    · exact .inl hl
    · exact idxT_Tyb h0 h3 b hb
theorem tyT_inj2 {xs : List Dt} (hw : worldOk xs = true) (hW : WorldOK xs) {t u : Ty} (ht : argOkB xs.length t = true) (hu : argOkB xs.length u = true) (h : tyT xs t = tyT xs u) : t = u := by
  rcases tyT_shape hW ht with ⟨rfl, e1⟩ | ⟨d, hd, c, d1, i0, i3, hc, hc73, -, e1⟩
  · rcases tyT_shape hW hu with ⟨rfl, -⟩ | ⟨e, he, c', -, -, -, -, hc73', -, e2⟩
    · rfl
    · rw [e1, e2] at h
      exact absurd (List.cons.inj h).1.symm hc73'
  · rcases tyT_shape hW hu with ⟨rfl, e2⟩ | ⟨e, he, c', d2, j0, j3, hc', -, -, e2⟩
    · rw [e1, e2] at h
      exact absurd (List.cons.inj h).1 hc73
    · rw [e1, e2] at h
      obtain ⟨h1, h2⟩ := List.cons.inj h
      have hde : d = e := name_inj hw hd he (tl_inj (by rw [hc, hc', h1]))
      have hij := idxT_inj' i0 i3 j0 j3 h2
      obtain ⟨td, ti⟩ := t
      obtain ⟨ud, ui⟩ := u
      simp only at d1 d2 hij
      rw [d1, d2, hde, hij]
/-! ### Constructors -/
theorem endT_inj {c c' : Kt} (h0 : 0 ≤ c.idx) (h3 : c.idx ≤ 3) (g0 : 0 ≤ c'.idx) (g3 : c'.idx ≤ 3) (h : endT c = endT c') : c.idx = c'.idx := by
  unfold endT at h
  split at h <;> split at h
  · have h2 := (List.cons.inj h).2
    obtain ⟨a, ha⟩ := Int.eq_ofNat_of_zero_le h0
    obtain ⟨b, hb⟩ := Int.eq_ofNat_of_zero_le g0
    have key : ∀ x y : Fin 4, digT (x.1 : Int) = digT (y.1 : Int) → x = y := by decide
    rw [ha, hb] at h2 ⊢
    have h4 := congrArg Fin.val (key ⟨a, by omega⟩ ⟨b, by omega⟩ h2)
    simp only at h4
    rw [h4]
  · cases h
  · cases h
  · omega
theorem endT_head (c : Kt) : endT c = [] ∨ ∃ t, endT c = 58 :: t := by
  unfold endT
  split
  · exact .inr ⟨_, rfl⟩
  · exact .inl rfl
theorem args_inj {xs : List Dt} (hw : worldOk xs = true) (hW : WorldOK xs) (e e' : List UInt8) : ∀ (l l' : List Ty), (∀ a ∈ l, argOkB xs.length a = true) → (∀ a ∈ l', argOkB xs.length a = true) →
    argsT xs false l ++ (41 :: e) = argsT xs false l' ++ (41 :: e') → l = l' ∧ e = e'
  | [], [], _, _, h => ⟨rfl, (List.cons.inj h).2⟩
  | [], a :: l, _, _, h => by
    simp only [argsT, List.nil_append, List.cons_append] at h
    exact absurd (List.cons.inj h).1 (by decide)
  | a :: l, [], _, _, h => by
    simp only [argsT, List.nil_append, List.cons_append] at h
    exact absurd (List.cons.inj h).1 (by decide)
  | a :: l, b :: l', hl, hl', h => by
    simp only [argsT, List.cons_append, List.append_assoc] at h
    have h1 := (List.cons.inj h).2
    have hd : ∀ (m : List Ty) (t : List UInt8) c r, argsT xs false m ++ (41 :: t) = c :: r → ¬ Tyb c := fun m t c r hh => by
      have h3 : c = 41 ∨ c = 44 := by
        cases m with
        | nil => exact .inl (List.cons.inj hh).1.symm
        | cons x m => simp only [argsT, List.cons_append] at hh; exact .inr (by have := (List.cons.inj hh).1; simpa using this.symm)
      rcases h3 with rfl | rfl <;> (unfold Tyb; decide)
    obtain ⟨k1, k2⟩ := blkP Tyb _ _ _ _ (tyT_Tyb hW (hl a (by simp))) (tyT_Tyb hW (hl' b (by simp))) (hd l e) (hd l' e') h1
    obtain ⟨k3, k4⟩ := args_inj hw hW e e' l l' (fun x hx => hl x (by simp [hx])) (fun x hx => hl' x (by simp [hx])) k2
    exact ⟨by rw [tyT_inj2 hw hW (hl a (by simp)) (hl' b (by simp)) k1, k3], k4⟩
theorem ktT_inj {xs : List Dt} (hw : worldOk xs = true) (hW : WorldOK xs) {c c' : Kt} (hc : KtOk xs.length c) (hc' : KtOk xs.length c') (h : ktT xs c = ktT xs c') : c = c' := by
  unfold ktT at h
  have hd : ∀ k : Kt, ∀ x r, argsT xs true k.args ++ (closeT k ++ endT k) = x :: r → ¬ Let x := fun k x r hh => by
    have h3 : x = 40 ∨ x = 58 := by
      unfold closeT at hh
      cases hk : k.args with
      | nil =>
        rw [hk] at hh
        simp only [argsT, List.length_nil, Nat.lt_irrefl, if_false, List.nil_append] at hh
        rcases endT_head k with h4 | ⟨t, h4⟩
        · rw [h4] at hh; cases hh
        · rw [h4] at hh; exact .inr (List.cons.inj hh).1.symm
      | cons a l =>
        rw [hk] at hh
        simp only [argsT, List.cons_append] at hh
        exact .inl (by have := (List.cons.inj hh).1; simpa using this.symm)
    rcases h3 with rfl | rfl <;> (unfold Let; decide)
  obtain ⟨k1, k2⟩ := blkP Let _ _ _ _ (nameOk_Let hc.name).2 (nameOk_Let hc'.name).2 (hd c) (hd c') h
  have hn : c.name = c'.name := tl_inj k1
  have fin : c.args = c'.args ∧ endT c = endT c' := by
    unfold closeT at k2
    cases ha : c.args with
    | nil =>
      cases hb : c'.args with
      | nil =>
        rw [ha, hb] at k2
        simp only [argsT, List.length_nil, Nat.lt_irrefl, if_false, List.nil_append] at k2
        exact ⟨rfl, k2⟩
      | cons b l =>
        exfalso
        rw [ha, hb] at k2
        simp only [argsT, List.length_nil, Nat.lt_irrefl, if_false, List.nil_append, List.cons_append] at k2
        rcases endT_head c with h4 | ⟨t, h4⟩
        · rw [h4] at k2; cases k2
        · rw [h4] at k2; exact absurd (List.cons.inj k2).1 (by decide)
    | cons a l =>
      cases hb : c'.args with
      | nil =>
        exfalso
        rw [ha, hb] at k2
        simp only [argsT, List.length_nil, Nat.lt_irrefl, if_false, List.nil_append, List.cons_append] at k2
        rcases endT_head c' with h4 | ⟨t, h4⟩
        · rw [h4] at k2; cases k2
        · rw [h4] at k2; exact absurd (List.cons.inj k2).1 (by decide)
      | cons b l' =>
        have ok1 : ∀ x ∈ a :: l, argOkB xs.length x = true := fun x hx => hc.all x (by rw [ha]; exact hx)
        have ok2 : ∀ x ∈ b :: l', argOkB xs.length x = true := fun x hx => hc'.all x (by rw [hb]; exact hx)
        rw [ha, hb] at k2
        simp only [argsT, List.length_cons, if_pos (Nat.succ_pos _), List.cons_append, List.append_assoc, List.nil_append] at k2
        refine args_inj hw hW (endT c) (endT c') (a :: l) (b :: l') ok1 ok2 ?_
        simp only [argsT, List.cons_append, List.append_assoc]
        rw [(List.cons.inj k2).2]
  have hi := endT_inj hc.lo hc.hi hc'.lo hc'.hi fin.2
  obtain ⟨n1, a1, i1⟩ := c
  obtain ⟨n2, a2, i2⟩ := c'
  simp only at hn fin hi
  rw [hn, fin.1, hi]
end Go.Proofs.YtcknbkbejifhcaaDoor

namespace Go.Proofs.YtcknbkbejifhcaaDoor
open Go.RowKit

def Okb (b : UInt8) : Prop := b.toNat ≠ 59 ∧ b.toNat ≠ 124
theorem Okb.ofLet {b : UInt8} (h : Let b) : Okb b := by unfold Let at h; unfold Okb; omega
theorem Okb.ofTyb {b : UInt8} (h : Tyb b) : Okb b := by unfold Tyb at h; unfold Okb; omega
theorem argsT_Okb {xs : List Dt} (hW : WorldOK xs) : ∀ (l : List Ty) (b : Bool), (∀ a ∈ l, argOkB xs.length a = true) → ∀ x ∈ argsT xs b l, Okb x
  | [], _, _, x, hx => by simp [argsT] at hx
  | a :: l, b, hl, x, hx => by
    simp only [argsT] at hx
    rcases List.mem_cons.1 hx with rfl | hx
    · cases b <;> (unfold Okb; decide)
    · rcases List.mem_append.1 hx with hx | hx
      · exact Okb.ofTyb (tyT_Tyb hW (hl a (by simp)) x hx)
      · exact argsT_Okb hW l false (fun y hy => hl y (by simp [hy])) x hx
theorem endT_Okb {c : Kt} (h0 : 0 ≤ c.idx) (h3 : c.idx ≤ 3) : ∀ x ∈ endT c, Okb x := by
  unfold endT
  split
  · obtain ⟨a, ha⟩ := Int.eq_ofNat_of_zero_le h0
    have key : ∀ y : Fin 4, ∀ x ∈ 58 :: digT (y.1 : Int), x.toNat ≠ 59 ∧ x.toNat ≠ 124 := by decide
    have := key ⟨a, by omega⟩
    rw [ha]
    exact this
  · intro x hx; cases hx
theorem ktT_Okb {xs : List Dt} (hW : WorldOK xs) {c : Kt} (hc : KtOk xs.length c) : ∀ x ∈ ktT xs c, Okb x := by
  intro x hx
  unfold ktT at hx
  rcases List.mem_append.1 hx with hx | hx
  · exact Okb.ofLet ((nameOk_Let hc.name).2 x hx)
  · rcases List.mem_append.1 hx with hx | hx
    · exact argsT_Okb hW _ _ hc.all x hx
    · rcases List.mem_append.1 hx with hx | hx
      · unfold closeT at hx
        split at hx
        · rw [List.mem_singleton] at hx; subst hx; unfold Okb; decide
        · cases hx
      · exact endT_Okb hc.lo hc.hi x hx
theorem ktsF_head (xs : List Dt) (l : List Kt) : ∀ c t, ktsT xs false l = c :: t → c = 124 := by
  intro c t h
  cases l with
  | nil => cases h
  | cons k l => simp [ktsT] at h; exact h.1.symm
theorem ktsF_inj {xs : List Dt} (hw : worldOk xs = true) (hW : WorldOK xs) : ∀ (l l' : List Kt), (∀ c ∈ l, KtOk xs.length c) → (∀ c ∈ l', KtOk xs.length c) → ktsT xs false l = ktsT xs false l' → l = l'
  | [], [], _, _, _ => rfl
  | [], c :: l, _, _, h => by simp [ktsT] at h
  | c :: l, [], _, _, h => by simp [ktsT] at h
  | c :: l, c' :: l', hl, hl', h => by
    simp only [ktsT, Bool.false_eq_true, if_false, List.cons_append, List.nil_append] at h
    obtain ⟨k1, k2⟩ := blkP Okb _ _ _ _ (ktT_Okb hW (hl c (by simp))) (ktT_Okb hW (hl' c' (by simp))) (fun x t hh => by rw [ktsF_head xs l x t hh]; unfold Okb; decide) (fun x t hh => by rw [ktsF_head xs l' x t hh]; unfold Okb; decide) (List.cons.inj h).2
    rw [ktT_inj hw hW (hl c (by simp)) (hl' c' (by simp)) k1, ktsF_inj hw hW l l' (fun x hx => hl x (by simp [hx])) (fun x hx => hl' x (by simp [hx])) k2]
theorem ktsT_inj {xs : List Dt} (hw : worldOk xs = true) (hW : WorldOK xs) {l l' : List Kt} (h0 : 1 ≤ l.length) (h0' : 1 ≤ l'.length) (hl : ∀ c ∈ l, KtOk xs.length c) (hl' : ∀ c ∈ l', KtOk xs.length c) (h : ktsT xs true l = ktsT xs true l') : l = l' := by
  cases l with
  | nil => simp at h0
  | cons c l =>
    cases l' with
    | nil => simp at h0'
    | cons c' l' =>
      refine ktsF_inj hw hW (c :: l) (c' :: l') hl hl' ?_
      simp only [ktsT, Bool.false_eq_true, if_false, if_true, List.cons_append, List.nil_append] at h ⊢
      rw [h]
theorem ktsT_ne59 {xs : List Dt} (hW : WorldOK xs) : ∀ (l : List Kt) (b : Bool), (∀ c ∈ l, KtOk xs.length c) → ∀ x ∈ ktsT xs b l, x.toNat ≠ 59
  | [], _, _, x, hx => by simp [ktsT] at hx
  | c :: l, b, hl, x, hx => by
    simp only [ktsT] at hx
    rcases List.mem_append.1 hx with hx | hx
    · cases b with
      | true => simp at hx
      | false => simp at hx; subst hx; decide
    · rcases List.mem_append.1 hx with hx | hx
      · exact (ktT_Okb hW (hl c (by simp)) x hx).1
      · exact ktsT_ne59 hW l false (fun y hy => hl y (by simp [hy])) x hx
theorem dtT_ne59 {xs : List Dt} (hW : WorldOK xs) {x : Dt} (hx : DtOk xs.length x) : ∀ b ∈ dtT xs x, b.toNat ≠ 59 := by
  intro b hb
  unfold dtT at hb
  obtain ⟨c, hc, -, hl⟩ := dname_Let hx.name
  rw [hc] at hb
  rcases List.mem_append.1 hb with hb | hb
  · rw [List.mem_singleton] at hb; subst hb; unfold Let at hl; omega
  · rcases List.mem_cons.1 hb with rfl | hb
    · decide
    · exact ktsT_ne59 hW _ _ hx.all b hb
theorem dtsF_cons (xs : List Dt) (x : Dt) (l : List Dt) : dtsT xs false (x :: l) = 59 :: (dtT xs x ++ dtsT xs false l) := by simp [dtsT, dtT, tl]
theorem dtsTr_cons (xs : List Dt) (x : Dt) (l : List Dt) : dtsT xs true (x :: l) = dtT xs x ++ dtsT xs false l := by simp [dtsT, dtT, tl]
theorem dtsF_head (xs : List Dt) (l : List Dt) : ∀ c t, dtsT xs false l = c :: t → c = 59 := by
  intro c t h
  cases l with
  | nil => cases h
  | cons k l => rw [dtsF_cons] at h; exact (List.cons.inj h).1.symm
theorem dtsF_inj {xs ys : List Dt} (hW : WorldOK xs) (hV : WorldOK ys) : ∀ (l l' : List Dt), (∀ x ∈ l, DtOk xs.length x) → (∀ x ∈ l', DtOk ys.length x) → dtsT xs false l = dtsT ys false l' → l.map (dtT xs) = l'.map (dtT ys)
  | [], [], _, _, _ => rfl
  | [], c :: l, _, _, h => by rw [dtsF_cons] at h; cases h
  | c :: l, [], _, _, h => by rw [dtsF_cons] at h; cases h
  | c :: l, c' :: l', hl, hl', h => by
    rw [dtsF_cons, dtsF_cons] at h
    obtain ⟨k1, k2⟩ := blkP (fun b => b.toNat ≠ 59) _ _ _ _ (dtT_ne59 hW (hl c (by simp))) (dtT_ne59 hV (hl' c' (by simp))) (fun x t hh => by rw [dtsF_head xs l x t hh]; decide) (fun x t hh => by rw [dtsF_head ys l' x t hh]; decide) (List.cons.inj h).2
    rw [List.map_cons, List.map_cons, k1, dtsF_inj hW hV l l' (fun x hx => hl x (by simp [hx])) (fun x hx => hl' x (by simp [hx])) k2]
/-! ### Worlds with the same names write types alike -/
theorem nameAt_congr {xs ys : List Dt} (h : xs.map Dt.name = ys.map Dt.name) (d : Int) : nameAt xs d = nameAt ys d := by
  have e : ∀ zs : List Dt, nameAt zs d = match (zs.map Dt.name)[d.toNat]? with | some s => s.data.toList | none => [] := fun zs => by
    unfold nameAt
    rw [List.getElem?_map]
    cases zs[d.toNat]? <;> rfl
  rw [e, e, h]
theorem tyT_congr {xs ys : List Dt} (h : xs.map Dt.name = ys.map Dt.name) (t : Ty) : tyT xs t = tyT ys t := by unfold tyT; rw [nameAt_congr h]
theorem argsT_congr {xs ys : List Dt} (h : xs.map Dt.name = ys.map Dt.name) : ∀ (l : List Ty) (b : Bool), argsT xs b l = argsT ys b l
  | [], _ => rfl
  | a :: l, b => by simp only [argsT]; rw [tyT_congr h, argsT_congr h l false]
theorem ktT_congr {xs ys : List Dt} (h : xs.map Dt.name = ys.map Dt.name) (c : Kt) : ktT xs c = ktT ys c := by unfold ktT; rw [argsT_congr h]
theorem ktsT_congr {xs ys : List Dt} (h : xs.map Dt.name = ys.map Dt.name) : ∀ (l : List Kt) (b : Bool), ktsT xs b l = ktsT ys b l
  | [], _ => rfl
  | a :: l, b => by simp only [ktsT]; rw [ktT_congr h, ktsT_congr h l false]
theorem textT_inj {xs ys : List Dt} (hx : worldOk xs = true) (hy : worldOk ys = true) (h : textT xs = textT ys) : xs = ys := by
  have hW := worldOK hx
  have hV := worldOK hy
  have ne : ∀ (zs : List Dt) (x : Dt) (l : List Dt), WorldOK zs → x ∈ zs → dtsT zs true (x :: l) ≠ [] := fun zs x l hz hm e => by
    obtain ⟨c, hc, -, -⟩ := dname_Let (hz.all x hm).name
    rw [dtsTr_cons] at e
    unfold dtT at e
    rw [hc] at e
    cases e
  have hm : xs.map (dtT xs) = ys.map (dtT ys) := by
    unfold textT at h
    cases hxs : xs with
    | nil =>
      cases hys : ys with
      | nil => rfl
      | cons y l => exfalso; rw [hxs, hys] at h; exact ne (y :: l) y l (hys ▸ hV) (by simp) h.symm
    | cons x l =>
      cases hys : ys with
      | nil => exfalso; rw [hxs, hys] at h; exact ne (x :: l) x l (hxs ▸ hW) (by simp) h
      | cons y l' =>
        refine dtsF_inj (hxs ▸ hW) (hys ▸ hV) (x :: l) (y :: l') (fun z hz => hxs ▸ hW.all z (hxs ▸ hz)) (fun z hz => hys ▸ hV.all z (hys ▸ hz)) ?_
        rw [hxs, hys, dtsTr_cons, dtsTr_cons] at h
        rw [dtsF_cons, dtsF_cons, h]
  have hlen : xs.length = ys.length := by have := congrArg List.length hm; simpa using this
  have each : ∀ i (h1 : i < xs.length) (h2 : i < ys.length), xs[i].name = ys[i].name ∧ ktsT xs true xs[i].ctors = ktsT ys true ys[i].ctors := fun i h1 h2 => by
    have he : (xs.map (dtT xs))[i]? = (ys.map (dtT ys))[i]? := by rw [hm]
    rw [List.getElem?_map, List.getElem?_map, List.getElem?_eq_getElem h1, List.getElem?_eq_getElem h2] at he
    have he2 : dtT xs xs[i] = dtT ys ys[i] := Option.some.inj he
    obtain ⟨c, hc, -, -⟩ := dname_Let (hW.at h1).name
    obtain ⟨c', hc', -, -⟩ := dname_Let (hV.at h2).name
    unfold dtT at he2
    rw [hc, hc'] at he2
    simp only [List.cons_append, List.nil_append, List.cons.injEq, true_and] at he2
    exact ⟨tl_inj (by rw [hc, hc', he2.1]), he2.2⟩
  have hnames : xs.map Dt.name = ys.map Dt.name := by
    refine List.ext_getElem (by simpa using hlen) fun i h1 h2 => ?_
    rw [List.getElem_map, List.getElem_map]
    exact (each i (by simpa using h1) (by simpa using h2)).1
  refine List.ext_getElem hlen fun i h1 h2 => ?_
  obtain ⟨hn, hk⟩ := each i h1 h2
  rw [← ktsT_congr hnames] at hk
  have hd1 := hW.at h1
  have hd2 := hV.at h2
  rw [← hlen] at hd2
  have hc := ktsT_inj hx hW hd1.lo hd2.lo hd1.all hd2.all hk
  cases hxi : xs[i] with
  | mk n1 c1 =>
    cases hyi : ys[i] with
    | mk n2 c2 =>
      rw [hxi, hyi] at hn hc
      simp only at hn hc
      rw [hn, hc]
end Go.Proofs.YtcknbkbejifhcaaDoor

namespace Go.Proofs.YtcknbkbejifhcaaDoor
open Go.RowKit

def Ty.same (a b : Ty) : Bool := a.d == b.d && a.i == b.i
theorem Ty.same_iff (a b : Ty) : Ty.same a b = true ↔ a = b := by
  unfold Ty.same
  rw [Bool.and_eq_true, beq_iff_eq, beq_iff_eq]
  constructor
  · rintro ⟨h1, h2⟩; exact Ty.ext h1 h2
  · rintro rfl; exact ⟨rfl, rfl⟩

set_option maxRecDepth 100000 in
set_option maxHeartbeats 800000 in
theorem Equal_Ty (xs ys : List Ty) (w : World) (F G : List Nat) (x y : Value) (hx : Arr w (TyR w) xs x F) (hy : Arr w (TyR w) ys y G) :
    Calls Tryd.prog 32 #[x, y] w fun e w' => e = .returned (.bool (sameBy Ty.same xs ys)) ∧ ∃ n, w' = w.drewN n := by
  have HX := Lib.hid hx
  have HY := Lib.hid hy
  obtain ⟨A, cap, rfl, hl, hm⟩ := hx.form
  obtain ⟨A', cap', rfl, hl', hm'⟩ := hy.form
  clear hx hy
  by_cases hlen : xs.length = ys.length
  · have tl : ((xs.length : Int) != (ys.length : Int)) = false := by rw [hlen]; simp
    have h1 : xs.length ≤ ys.length := by omega
    have h2 : ys.length ≤ xs.length := by omega
    clear hlen
    go_enter Tryd.func32, Tryd.ntmps32
    go_wp2
    go_loopw [13] (fun i wr => ∃ k q : Nat, k ≤ xs.length ∧ i = .int .i64 k ∧ Hid (sameBy Ty.same xs ys = sameBy Ty.same (xs.drop k) (ys.drop k)) ∧ wr = w.drewN q) (fun i _ => xs.length - (intOf i).toNat)
    case atStart => exact ⟨0, 0, Nat.zero_le _, rfl, rfl, rfl⟩
    case round =>
      obtain ⟨k, q, hk, rfl, HT, rfl⟩ := hrel
      by_cases hlt : k < xs.length
      · have hlt' : k < ys.length := by omega
        have hi0 : (0 : Int) ≤ (k : Int) := by omega
        have hi1 : (k : Int) < (xs.length : Int) := by omega
        have hi2 : (k : Int) < (ys.length : Int) := by omega
        obtain ⟨b, off, cs, F1, rfl, hb, hcs, hv, -⟩ := HX.out.get TyR_len hlt
        obtain ⟨b', off', ds, G1, rfl, hb', hds, hv', -⟩ := HY.out.get TyR_len hlt'
        obtain rfl := TyR_form hv
        obtain rfl := TyR_form hv'
        have c0 := hcs 0 _ rfl
        have c1 := hcs 1 _ rfl
        have d0 := hds 0 _ rfl
        have d1 := hds 1 _ rfl
        simp only [Nat.add_zero] at c0 d0
        clear hcs hds hv hv' hb hb'
        have hd := sameBy_drop (f := Ty.same) xs ys k hlt hlt'
        cases hs : Ty.same xs[k] ys[k] with
        | true =>
          rw [hs, Bool.true_and] at hd
          have HT2 : Hid (sameBy Ty.same xs ys = sameBy Ty.same (xs.drop (k + 1)) (ys.drop (k + 1))) := HT.out.trans hd
          have he := (Ty.same_iff _ _).1 hs
          have e0 : (xs[k].d == ys[k].d) = true := by rw [he]; simp
          have e1 : (xs[k].i == ys[k].i) = true := by rw [he]; simp
          clear hd hs he
          go_wp2_with fail
          go_quiet (fail)
          go_wp2
          go_roundw
          case rel => exact ⟨k + 1, _, by omega, by go_num, HT2, rfl⟩
          case measure => simp [intOf]; omega
        | false =>
          rw [hs, Bool.false_and] at hd
          have hf := Lib.hid (HT.out.trans hd)
          clear hd
          unfold Ty.same at hs
          cases e0 : (xs[k].d == ys[k].d) with
          | true =>
            have e1 : (xs[k].i == ys[k].i) = false := by rw [e0, Bool.true_and] at hs; exact hs
            clear hs
            go_wp2_with fail
            go_quiet (fail)
            go_wp2
            go_ret
            exact ⟨ret_bool hf.out.symm, _, World.drewN_drewN _ _ _⟩
          | false =>
            clear hs
            go_wp2_with fail
            go_quiet (fail)
            go_wp2
            go_ret
            exact ⟨ret_bool hf.out.symm, _, World.drewN_drewN _ _ _⟩
      · have hT := HT.out
        rw [List.drop_of_length_le (by omega), List.drop_of_length_le (by omega)] at hT
        have hf : Hid (sameBy Ty.same xs ys = true) := hT
        clear hT
        go_wp2
        go_ret
        exact ⟨ret_bool hf.out.symm, _, rfl⟩
  · have tl : ((xs.length : Int) != (ys.length : Int)) = true := by rw [bne_iff_ne]; omega
    have hf := Lib.hid (sameBy_len_false (f := Ty.same) hlen)
    clear hlen
    go_enter Tryd.func32, Tryd.ntmps32
    go_wp2
    go_ret
    exact ⟨ret_bool hf.out.symm, 0, rfl⟩
end Go.Proofs.YtcknbkbejifhcaaDoor

namespace Go.Proofs.YtcknbkbejifhcaaDoor
open Go.RowKit

def Kt.same (a b : Kt) : Bool := (a.name.toList == b.name.toList) && (a.idx == b.idx && sameBy Ty.same a.args b.args)
theorem Kt.same_iff (a b : Kt) : Kt.same a b = true ↔ a = b := by
  unfold Kt.same
  rw [Bool.and_eq_true, Bool.and_eq_true, bytes_beq_iff, beq_iff_eq, sameBy_iff Ty.same_iff]
  constructor
  · rintro ⟨h1, h2, h3⟩; exact Kt.ext h1 h3 h2
  · rintro rfl; exact ⟨rfl, rfl, rfl⟩

set_option maxRecDepth 100000 in
set_option maxHeartbeats 1600000 in
theorem spec_l1SameCtor (a b : Kt) (w : World) (cs ds : List Value) (F G : List Nat) (hv : KtR w a cs F) (hv' : KtR w b ds G) (hF : Under w.heap.size F) (hG : Under w.heap.size G) :
    Calls Tryd.prog 36 #[.agg cs.toArray, .agg ds.toArray] w fun e w' => e = .returned (.bool (Kt.same a b)) ∧ Below w.heap.size w w' := by
  obtain ⟨kv, rfl, ha, hs⟩ := hv
  obtain ⟨kv', rfl, ha', hs'⟩ := hv'
  have HX := Lib.hid ha
  have HY := Lib.hid ha'
  obtain ⟨A, cap, rfl, hc1, hc2⟩ := ha.form
  obtain ⟨A', cap', rfl, hc3, hc4⟩ := ha'.form
  clear ha ha'
  have HF := Lib.hid hF
  have HG := Lib.hid hG
  clear hF hG
  cases e0 : (a.name.toList == b.name.toList) with
  | false =>
    have hf : Hid (Kt.same a b = false) := by unfold Kt.same; rw [e0]; rfl
    go_enter Tryd.func36, Tryd.ntmps36
    go_wp2
    go_ret
    exact ⟨ret_bool hf.out.symm, ((Below.refl _ _).alloc (Nat.le_refl _) _).alloc (by simp) _⟩
  | true =>
    cases e1 : (a.idx == b.idx) with
    | false =>
      have e1n : (a.idx != b.idx) = true := by rw [bne, e1]; rfl
      have hf : Hid (Kt.same a b = false) := by unfold Kt.same; rw [e0, e1]; rfl
      go_enter Tryd.func36, Tryd.ntmps36
      go_wp2
      go_ret
      exact ⟨ret_bool hf.out.symm, ((Below.refl _ _).alloc (Nat.le_refl _) _).alloc (by simp) _⟩
    | true =>
      have e1n : (a.idx != b.idx) = false := by rw [bne, e1]; rfl
      have hsame : Kt.same a b = sameBy Ty.same a.args b.args := by unfold Kt.same; rw [e0, e1]; rfl
      by_cases hlen : a.args.length = b.args.length
      · have tl : ((a.args.length : Int) != (b.args.length : Int)) = false := by rw [hlen]; simp
        have h1 : a.args.length ≤ b.args.length := by omega
        have h2 : b.args.length ≤ a.args.length := by omega
        have HSame := Lib.hid hsame
        clear hlen hsame
        go_enter Tryd.func36, Tryd.ntmps36
        go_wp2
        obtain ⟨W2, hW2⟩ : ∃ W2, W2 = (w.alloc (.cells #[.string a.name, .slice A a.args.length cap, .int .i64 a.idx] 27)).alloc (.cells #[.string b.name, .slice A' b.args.length cap', .int .i64 b.idx] 27) := ⟨_, rfl⟩
        have hB2 : Below w.heap.size w W2 := by rw [hW2]; exact ((Below.refl _ _).alloc (Nat.le_refl _) _).alloc (by simp) _
        have k1 : Blk W2 w.heap.size 27 #[.string a.name, .slice A a.args.length cap, .int .i64 a.idx] := by rw [hW2]; exact (Blk.new w _ _).same (Below.heap_alloc _ _ _ (by simp))
        have k2 : Blk W2 (w.heap.size + 1) 27 #[.string b.name, .slice A' b.args.length cap', .int .i64 b.idx] := by rw [hW2]; have := Blk.new (w.alloc (.cells #[.string a.name, .slice A a.args.length cap, .int .i64 a.idx] 27)) 27 #[.string b.name, .slice A' b.args.length cap', .int .i64 b.idx]; simpa using this
        rw [← hW2]
        clear hW2
        have x1 : W2.cell? ⟨w.heap.size, 1, none⟩ = some (.slice A a.args.length cap) := (k1.cell 1).trans (by simp)
        have y1 : W2.cell? ⟨w.heap.size + 1, 1, none⟩ = some (.slice A' b.args.length cap') := (k2.cell 1).trans (by simp)
        clear k1 k2
        go_loopw [5] (fun i wr => ∃ k q : Nat, k ≤ a.args.length ∧ i = .int .i64 k ∧ Hid (sameBy Ty.same a.args b.args = sameBy Ty.same (a.args.drop k) (b.args.drop k)) ∧ wr = W2.drewN q) (fun i _ => a.args.length - (intOf i).toNat)
        case atStart => exact ⟨0, 0, Nat.zero_le _, rfl, rfl, rfl⟩
        case round =>
          obtain ⟨k, q, hk, rfl, HT, rfl⟩ := hrel
          by_cases hlt : k < a.args.length
          · have hlt' : k < b.args.length := by omega
            have hi0 : (0 : Int) ≤ (k : Int) := by omega
            have hi1 : (k : Int) < (a.args.length : Int) := by omega
            have hi2 : (k : Int) < (b.args.length : Int) := by omega
            obtain ⟨p, off, cs, F1, rfl, hb, hcs, hv, -⟩ := HX.out.get TyR_len hlt
            obtain ⟨p', off', ds, G1, rfl, hb', hds, hv', -⟩ := HY.out.get TyR_len hlt'
            have hcs := hcs.same (hB2.block p (HF.out p hb))
            have hds := hds.same (hB2.block p' (HG.out p' hb'))
            obtain rfl := TyR_form hv
            obtain rfl := TyR_form hv'
            have c0 := hcs 0 _ rfl
            have c1 := hcs 1 _ rfl
            have d0 := hds 0 _ rfl
            have d1 := hds 1 _ rfl
            simp only [Nat.add_zero] at c0 d0
            clear hcs hds hv hv' hb hb'
            have hd := sameBy_drop (f := Ty.same) a.args b.args k hlt hlt'
            cases hsm : Ty.same a.args[k] b.args[k] with
            | true =>
              rw [hsm, Bool.true_and] at hd
              have HT2 : Hid (sameBy Ty.same a.args b.args = sameBy Ty.same (a.args.drop (k + 1)) (b.args.drop (k + 1))) := HT.out.trans hd
              have he := (Ty.same_iff _ _).1 hsm
              have t0 : (a.args[k].d == b.args[k].d) = true := by rw [he]; simp
              have t1 : (a.args[k].i == b.args[k].i) = true := by rw [he]; simp
              clear hd hsm he
              go_wp2_with fail
              go_quiet (fail)
              go_wp2
              go_roundw
              case rel => exact ⟨k + 1, _, by omega, by go_num, HT2, rfl⟩
              case measure => simp [intOf]; omega
            | false =>
              rw [hsm, Bool.false_and] at hd
              have hf := Lib.hid (HSame.out.trans (HT.out.trans hd))
              have HB3 := Lib.hid (fun n => below_drewN (below_drewN hB2 q) n)
              clear hd
              unfold Ty.same at hsm
              cases t0 : (a.args[k].d == b.args[k].d) with
              | true =>
                have t1 : (a.args[k].i == b.args[k].i) = false := by rw [t0, Bool.true_and] at hsm; exact hsm
                clear hsm
                go_wp2_with fail
                go_quiet (fail)
                go_wp2
                go_ret
                exact ⟨ret_bool hf.out.symm, HB3.out _⟩
              | false =>
                clear hsm
                go_wp2_with fail
                go_quiet (fail)
                go_wp2
                go_ret
                exact ⟨ret_bool hf.out.symm, HB3.out _⟩
          · have hT := HT.out
            rw [List.drop_of_length_le (by omega), List.drop_of_length_le (by omega)] at hT
            have hf : Hid (Kt.same a b = true) := HSame.out.trans hT
            have HB3 := Lib.hid (below_drewN hB2 q)
            clear hT
            go_wp2
            go_ret
            exact ⟨ret_bool hf.out.symm, HB3.out⟩
      · have tl : ((a.args.length : Int) != (b.args.length : Int)) = true := by rw [bne_iff_ne]; omega
        have hf := Lib.hid (hsame.trans (sameBy_len_false (f := Ty.same) hlen))
        clear hlen hsame
        go_enter Tryd.func36, Tryd.ntmps36
        go_wp2
        go_ret
        exact ⟨ret_bool hf.out.symm, ((Below.refl _ _).alloc (Nat.le_refl _) _).alloc (by simp) _⟩

set_option maxRecDepth 100000 in
set_option maxHeartbeats 1600000 in
theorem sameCtor_closure (a b : Kt) (w : World) (cs ds : List Value) (F G : List Nat) (hv : KtR w a cs F) (hv' : KtR w b ds G) (hF : Under w.heap.size F) (hG : Under w.heap.size G) :
    Calls Tryd.prog 31 #[.agg cs.toArray, .agg ds.toArray] w fun e w' => e = .returned (.bool (Kt.same a b)) ∧ Below w.heap.size w w' := by
  obtain ⟨kv, rfl, ha, hs⟩ := hv
  obtain ⟨kv', rfl, ha', hs'⟩ := hv'
  have HX := Lib.hid ha
  have HY := Lib.hid ha'
  obtain ⟨A, cap, rfl, hc1, hc2⟩ := ha.form
  obtain ⟨A', cap', rfl, hc3, hc4⟩ := ha'.form
  clear ha ha'
  cases e0 : (a.name.toList == b.name.toList) with
  | false =>
    have hf : Hid (Kt.same a b = false) := by unfold Kt.same; rw [e0]; rfl
    go_enter Tryd.func31, Tryd.ntmps31
    go_wp2
    go_ret
    exact ⟨ret_bool hf.out.symm, ((Below.refl _ _).alloc (Nat.le_refl _) _).alloc (by simp) _⟩
  | true =>
    have hsame : Kt.same a b = (sameBy Ty.same a.args b.args && (a.idx == b.idx)) := by unfold Kt.same; rw [e0, Bool.true_and, Bool.and_comm]
    have HSame := Lib.hid hsame
    clear hsame
    have HF := Lib.hid hF
    have HG := Lib.hid hG
    clear hF hG
    go_enter Tryd.func31, Tryd.ntmps31
    go_wp2_with fail
    obtain ⟨W2, hW2⟩ : ∃ W2, W2 = (w.alloc (.cells #[.string a.name, .slice A a.args.length cap, .int .i64 a.idx] 27)).alloc (.cells #[.string b.name, .slice A' b.args.length cap', .int .i64 b.idx] 27) := ⟨_, rfl⟩
    have hB2 : Below w.heap.size w W2 := by rw [hW2]; exact ((Below.refl _ _).alloc (Nat.le_refl _) _).alloc (by simp) _
    have k1 : Blk W2 w.heap.size 27 #[.string a.name, .slice A a.args.length cap, .int .i64 a.idx] := by rw [hW2]; exact (Blk.new w _ _).same (Below.heap_alloc _ _ _ (by simp))
    have k2 : Blk W2 (w.heap.size + 1) 27 #[.string b.name, .slice A' b.args.length cap', .int .i64 b.idx] := by rw [hW2]; have := Blk.new (w.alloc (.cells #[.string a.name, .slice A a.args.length cap, .int .i64 a.idx] 27)) 27 #[.string b.name, .slice A' b.args.length cap', .int .i64 b.idx]; simpa using this
    rw [← hW2]
    clear hW2
    have x2 : W2.cell? ⟨w.heap.size, 2, none⟩ = some (.int .i64 a.idx) := (k1.cell 2).trans (by simp)
    have y2 : W2.cell? ⟨w.heap.size + 1, 2, none⟩ = some (.int .i64 b.idx) := (k2.cell 2).trans (by simp)
    clear k1 k2
    refine (Equal_Ty a.args b.args W2 F G _ _ (ArrTy.below HX.out hB2 HF.out) (ArrTy.below HY.out hB2 HG.out)).mono ?_
    rintro e w' ⟨rfl, q, rfl⟩
    have hB3 := Lib.hid (below_drewN hB2 q)
    cases e2 : sameBy Ty.same a.args b.args with
    | false =>
      have hf : Hid (Kt.same a b = false) := by rw [HSame.out, e2]; rfl
      go_wp2
      go_ret
      exact ⟨ret_bool hf.out.symm, hB3.out⟩
    | true =>
      have hf : Hid (Kt.same a b = (a.idx == b.idx)) := by rw [HSame.out, e2]; rfl
      go_wp2
      go_ret
      exact ⟨ret_bool hf.out.symm, hB3.out⟩
end Go.Proofs.YtcknbkbejifhcaaDoor

namespace Go.Proofs.YtcknbkbejifhcaaDoor
open Go.RowKit

set_option maxRecDepth 100000 in
set_option maxHeartbeats 1600000 in
theorem EqualFunc_Kt (xs ys : List Kt) (w : World) (x y : Value) (F G : List Nat) (hx : Arr w (KtR w) xs x F) (hy : Arr w (KtR w) ys y G) (hF : Under w.heap.size F) (hG : Under w.heap.size G) :
    Calls Tryd.prog 35 #[x, y, .func (.func 31) #[] #[]] w fun e w' => e = .returned (.bool (sameBy Kt.same xs ys)) ∧ Below w.heap.size w w' := by
  have HX := Lib.hid hx
  have HY := Lib.hid hy
  obtain ⟨A, cap, rfl, hc1, hc2⟩ := hx.form
  obtain ⟨A', cap', rfl, hc3, hc4⟩ := hy.form
  clear hx hy
  have HF := Lib.hid hF
  have HG := Lib.hid hG
  clear hF hG
  by_cases hl : xs.length = ys.length
  · have tl : ((xs.length : Int) != (ys.length : Int)) = false := by rw [hl]; simp
    have hle1 : xs.length ≤ ys.length := by omega
    have hle2 : ys.length ≤ xs.length := by omega
    clear hl
    go_enter Tryd.func35, Tryd.ntmps35
    go_wp2
    go_loopw [17] (fun i wr => ∃ k : Nat, k ≤ xs.length ∧ i = .int .i64 k ∧ Hid (sameBy Kt.same xs ys = sameBy Kt.same (xs.drop k) (ys.drop k)) ∧ Below w.heap.size w wr) (fun i _ => xs.length - (intOf i).toNat)
    case atStart => exact ⟨0, Nat.zero_le _, rfl, rfl, Below.refl _ _⟩
    case round =>
      obtain ⟨k, hk, rfl, HT, hB⟩ := hrel
      by_cases hlt : k < xs.length
      · have hlt' : k < ys.length := by omega
        have hd := sameBy_drop (f := Kt.same) xs ys k hlt hlt'
        have HD := Lib.hid hd
        clear hd
        obtain ⟨b, off, cs, G_, rfl, hb, hcs, hvc, hG_⟩ := HX.out.get KtR_len hlt
        have hbl := HF.out b hb
        have hGFc := HF.out.sub hG_
        have hwc := hvc.below hB hGFc
        have hcsc := hcs.same (hB.block b hbl)
        obtain ⟨A1, cap1, rfl⟩ := KtR_form hvc
        have c0 := hcsc 0 _ rfl
        have c1 := hcsc 1 _ rfl
        have c2 := hcsc 2 _ rfl
        simp only [Nat.add_zero] at c0
        clear hcs hcsc hvc hG_
        have HV := Lib.hid hwc
        clear hwc
        have HG_ := Lib.hid hGFc
        clear hGFc
        obtain ⟨b2, off2, ds, G2, rfl, hb2, hds, hvd, hG2⟩ := HY.out.get KtR_len hlt'
        have hbl2 := HG.out b2 hb2
        have hGFd := HG.out.sub hG2
        have hwd := hvd.below hB hGFd
        have hcsd := hds.same (hB.block b2 hbl2)
        obtain ⟨A2, cap2, rfl⟩ := KtR_form hvd
        have d0 := hcsd 0 _ rfl
        have d1 := hcsd 1 _ rfl
        have d2 := hcsd 2 _ rfl
        simp only [Nat.add_zero] at d0
        clear hds hcsd hvd hG2
        have HV2 := Lib.hid hwd
        clear hwd
        have HG2 := Lib.hid hGFd
        clear hGFd
        have hblw := Nat.lt_of_lt_of_le hbl hB.size
        have hblw2 := Nat.lt_of_lt_of_le hbl2 hB.size
        go_wp2_with fail
        obtain ⟨W2, hW2⟩ : ∃ W2, W2 = (wr.alloc (.cells #[.string xs[k].name, .slice A1 xs[k].args.length cap1, .int .i64 xs[k].idx] 27)).alloc (.cells #[.string ys[k].name, .slice A2 ys[k].args.length cap2, .int .i64 ys[k].idx] 27) := ⟨_, rfl⟩
        have hb2 : Below wr.heap.size wr W2 := by rw [hW2]; exact ((Below.refl _ _).alloc (Nat.le_refl _) _).alloc (by simp) _
        rw [← hW2]
        clear hW2
        have hB2 := hB.trans (hb2.mono hB.size)
        refine (sameCtor_closure xs[k] ys[k] W2 _ _ G_ G2 (HV.out.below hb2 (HG_.out.mono hB.size)) (HV2.out.below hb2 (HG2.out.mono hB.size)) (HG_.out.mono hB2.size) (HG2.out.mono hB2.size)).mono ?_
        rintro e w' ⟨rfl, hB'⟩
        have hB3 := hB2.trans (hB'.mono hB2.size)
        cases hs : Kt.same xs[k] ys[k] with
        | true =>
          have hT2 : Hid (sameBy Kt.same xs ys = sameBy Kt.same (xs.drop (k + 1)) (ys.drop (k + 1))) := by have hd := HD.out; rw [hs, Bool.true_and] at hd; exact HT.out.trans hd
          clear hs
          go_wp2
          go_roundw
          case rel => exact ⟨k + 1, by omega, by go_num, hT2, hB3⟩
          case measure => simp [intOf]; omega
        | false =>
          have hf : Hid (sameBy Kt.same xs ys = false) := by have hd := HD.out; rw [hs, Bool.false_and] at hd; exact HT.out.trans hd
          clear hs
          go_wp2
          go_ret
          exact ⟨ret_bool hf.out.symm, hB3⟩
      · have hT := HT.out
        rw [List.drop_of_length_le (by omega), List.drop_of_length_le (by omega)] at hT
        have hf : Hid (sameBy Kt.same xs ys = true) := hT
        clear hT
        go_wp2
        go_ret
        exact ⟨ret_bool hf.out.symm, hB⟩
  · have tl : ((xs.length : Int) != (ys.length : Int)) = true := by rw [bne_iff_ne]; omega
    have hf := Lib.hid (sameBy_len_false (f := Kt.same) hl)
    clear hl
    go_enter Tryd.func35, Tryd.ntmps35
    go_wp2
    go_ret
    exact ⟨ret_bool hf.out.symm, Below.refl _ _⟩

def Dt.same (a b : Dt) : Bool := (a.name.toList == b.name.toList) && sameBy Kt.same a.ctors b.ctors
theorem Dt.same_iff (a b : Dt) : Dt.same a b = true ↔ a = b := by
  unfold Dt.same
  rw [Bool.and_eq_true, bytes_beq_iff, sameBy_iff Kt.same_iff]
  constructor
  · rintro ⟨h1, h2⟩; exact Dt.ext h1 h2
  · rintro rfl; exact ⟨rfl, rfl⟩

set_option maxRecDepth 100000 in
set_option maxHeartbeats 1600000 in
theorem sameData_closure (a b : Dt) (w : World) (cs ds : List Value) (F G : List Nat) (g : Nat) (hg : w.cell? ⟨g, 0, none⟩ = some (.func (.func 31) #[] #[])) (hgl : g < w.heap.size) (hv : DtR w a cs F) (hv' : DtR w b ds G) (hF : Under w.heap.size F) (hG : Under w.heap.size G) :
    Calls Tryd.prog 34 #[.agg cs.toArray, .agg ds.toArray, .pointer (some ⟨g, 0, none⟩)] w fun e w' => e = .returned (.bool (Dt.same a b)) ∧ Below w.heap.size w w' := by
  obtain ⟨kv, rfl, ha, hs⟩ := hv
  obtain ⟨kv', rfl, ha', hs'⟩ := hv'
  have HX := Lib.hid ha
  have HY := Lib.hid ha'
  obtain ⟨A, cap, rfl, hc1, hc2⟩ := ha.form
  obtain ⟨A', cap', rfl, hc3, hc4⟩ := ha'.form
  clear ha ha'
  have HF := Lib.hid hF
  have HG := Lib.hid hG
  clear hF hG
  cases e0 : (a.name.toList == b.name.toList) with
  | false =>
    have hf : Hid (Dt.same a b = false) := by unfold Dt.same; rw [e0]; rfl
    go_enter Tryd.func34, Tryd.ntmps34
    go_wp2
    go_ret
    exact ⟨ret_bool hf.out.symm, ((Below.refl _ _).alloc (Nat.le_refl _) _).alloc (by simp) _⟩
  | true =>
    have hsame : Dt.same a b = sameBy Kt.same a.ctors b.ctors := by unfold Dt.same; rw [e0, Bool.true_and]
    have HSame := Lib.hid hsame
    clear hsame
    go_enter Tryd.func34, Tryd.ntmps34
    go_wp2_with fail
    obtain ⟨W2, hW2⟩ : ∃ W2, W2 = (w.alloc (.cells #[.string a.name, .slice A a.ctors.length cap] 30)).alloc (.cells #[.string b.name, .slice A' b.ctors.length cap'] 30) := ⟨_, rfl⟩
    have hB2 : Below w.heap.size w W2 := by rw [hW2]; exact ((Below.refl _ _).alloc (Nat.le_refl _) _).alloc (by simp) _
    rw [← hW2]
    clear hW2
    refine (EqualFunc_Kt a.ctors b.ctors W2 _ _ F G (ArrKt.below HX.out hB2 HF.out) (ArrKt.below HY.out hB2 HG.out) (HF.out.mono hB2.size) (HG.out.mono hB2.size)).mono ?_
    rintro e w' ⟨rfl, hB'⟩
    have hB3 := hB2.trans (hB'.mono hB2.size)
    generalize sameBy Kt.same a.ctors b.ctors = bb at *
    go_wp2
    go_ret
    exact ⟨ret_bool HSame.out.symm, hB3⟩

set_option maxRecDepth 100000 in
set_option maxHeartbeats 1600000 in
theorem EqualFunc_Dt (xs ys : List Dt) (w : World) (x y : Value) (F G : List Nat) (g : Nat) (hg : w.cell? ⟨g, 0, none⟩ = some (.func (.func 31) #[] #[])) (hgl : g < w.heap.size) (hx : Arr w (DtR w) xs x F) (hy : Arr w (DtR w) ys y G) (hF : Under w.heap.size F) (hG : Under w.heap.size G) :
    Calls Tryd.prog 33 #[x, y, .func (.func 34) #[] #[.pointer (some ⟨g, 0, none⟩)]] w fun e w' => e = .returned (.bool (sameBy Dt.same xs ys)) ∧ Below w.heap.size w w' := by
  have HX := Lib.hid hx
  have HY := Lib.hid hy
  obtain ⟨A, cap, rfl, hc1, hc2⟩ := hx.form
  obtain ⟨A', cap', rfl, hc3, hc4⟩ := hy.form
  clear hx hy
  have HF := Lib.hid hF
  have HG := Lib.hid hG
  clear hF hG
  have HG0 := Lib.hid hg
  clear hg
  by_cases hl : xs.length = ys.length
  · have tl : ((xs.length : Int) != (ys.length : Int)) = false := by rw [hl]; simp
    have hle1 : xs.length ≤ ys.length := by omega
    have hle2 : ys.length ≤ xs.length := by omega
    clear hl
    go_enter Tryd.func33, Tryd.ntmps33
    go_wp2
    go_loopw [17] (fun i wr => ∃ k : Nat, k ≤ xs.length ∧ i = .int .i64 k ∧ Hid (sameBy Dt.same xs ys = sameBy Dt.same (xs.drop k) (ys.drop k)) ∧ Below w.heap.size w wr) (fun i _ => xs.length - (intOf i).toNat)
    case atStart => exact ⟨0, Nat.zero_le _, rfl, rfl, Below.refl _ _⟩
    case round =>
      obtain ⟨k, hk, rfl, HT, hB⟩ := hrel
      by_cases hlt : k < xs.length
      · have hlt' : k < ys.length := by omega
        have hd := sameBy_drop (f := Dt.same) xs ys k hlt hlt'
        have HD := Lib.hid hd
        clear hd
        obtain ⟨b, off, cs, G_, rfl, hb, hcs, hvc, hG_⟩ := HX.out.get DtR_len hlt
        have hbl := HF.out b hb
        have hGFc := HF.out.sub hG_
        have hwc := hvc.below hB hGFc
        have hcsc := hcs.same (hB.block b hbl)
        obtain ⟨A1, cap1, rfl⟩ := DtR_form hvc
        have c0 := hcsc 0 _ rfl
        have c1 := hcsc 1 _ rfl
        simp only [Nat.add_zero] at c0
        clear hcs hcsc hvc hG_
        have HV := Lib.hid hwc
        clear hwc
        have HG_ := Lib.hid hGFc
        clear hGFc
        obtain ⟨b2, off2, ds, G2, rfl, hb2, hds, hvd, hG2⟩ := HY.out.get DtR_len hlt'
        have hbl2 := HG.out b2 hb2
        have hGFd := HG.out.sub hG2
        have hwd := hvd.below hB hGFd
        have hcsd := hds.same (hB.block b2 hbl2)
        obtain ⟨A2, cap2, rfl⟩ := DtR_form hvd
        have d0 := hcsd 0 _ rfl
        have d1 := hcsd 1 _ rfl
        simp only [Nat.add_zero] at d0
        clear hds hcsd hvd hG2
        have HV2 := Lib.hid hwd
        clear hwd
        have HG2 := Lib.hid hGFd
        clear hGFd
        have hblw := Nat.lt_of_lt_of_le hbl hB.size
        have hblw2 := Nat.lt_of_lt_of_le hbl2 hB.size
        go_wp2_with fail
        obtain ⟨W2, hW2⟩ : ∃ W2, W2 = (wr.alloc (.cells #[.string xs[k].name, .slice A1 xs[k].ctors.length cap1] 30)).alloc (.cells #[.string ys[k].name, .slice A2 ys[k].ctors.length cap2] 30) := ⟨_, rfl⟩
        have hb2 : Below wr.heap.size wr W2 := by rw [hW2]; exact ((Below.refl _ _).alloc (Nat.le_refl _) _).alloc (by simp) _
        rw [← hW2]
        clear hW2
        have hB2 := hB.trans (hb2.mono hB.size)
        refine (sameData_closure xs[k] ys[k] W2 _ _ G_ G2 g ((hB2.cell (p := ⟨g, 0, none⟩) hgl).trans HG0.out) (Nat.lt_of_lt_of_le hgl hB2.size) (HV.out.below hb2 (HG_.out.mono hB.size)) (HV2.out.below hb2 (HG2.out.mono hB.size)) (HG_.out.mono hB2.size) (HG2.out.mono hB2.size)).mono ?_
        rintro e w' ⟨rfl, hB'⟩
        have hB3 := hB2.trans (hB'.mono hB2.size)
        cases hs : Dt.same xs[k] ys[k] with
        | true =>
          have hT2 : Hid (sameBy Dt.same xs ys = sameBy Dt.same (xs.drop (k + 1)) (ys.drop (k + 1))) := by have hd := HD.out; rw [hs, Bool.true_and] at hd; exact HT.out.trans hd
          clear hs
          go_wp2
          go_roundw
          case rel => exact ⟨k + 1, by omega, by go_num, hT2, hB3⟩
          case measure => simp [intOf]; omega
        | false =>
          have hf : Hid (sameBy Dt.same xs ys = false) := by have hd := HD.out; rw [hs, Bool.false_and] at hd; exact HT.out.trans hd
          clear hs
          go_wp2
          go_ret
          exact ⟨ret_bool hf.out.symm, hB3⟩
      · have hT := HT.out
        rw [List.drop_of_length_le (by omega), List.drop_of_length_le (by omega)] at hT
        have hf : Hid (sameBy Dt.same xs ys = true) := hT
        clear hT
        go_wp2
        go_ret
        exact ⟨ret_bool hf.out.symm, hB⟩
  · have tl : ((xs.length : Int) != (ys.length : Int)) = true := by rw [bne_iff_ne]; omega
    have hf := Lib.hid (sameBy_len_false (f := Dt.same) hl)
    clear hl
    go_enter Tryd.func33, Tryd.ntmps33
    go_wp2
    go_ret
    exact ⟨ret_bool hf.out.symm, Below.refl _ _⟩

set_option maxHeartbeats 400000 in
theorem impl_WorldSame (xs ys : List Dt) (w : World) (x y : Value) (F G : List Nat) (hx : Arr w (DtR w) xs x F) (hy : Arr w (DtR w) ys y G) (hF : Under w.heap.size F) (hG : Under w.heap.size G) :
    Calls Tryd.prog 13 #[x, y] w fun e w' => e = .returned (.bool (sameBy Dt.same xs ys)) ∧ Below w.heap.size w w' := by
  have HX := Lib.hid hx
  have HY := Lib.hid hy
  obtain ⟨A, cap, rfl, hc1, hc2⟩ := hx.form
  obtain ⟨A', cap', rfl, hc3, hc4⟩ := hy.form
  clear hx hy
  have HF := Lib.hid hF
  have HG := Lib.hid hG
  clear hF hG
  go_enter Tryd.func13, Tryd.ntmps13
  go_wp2_with fail
  obtain ⟨W2, hW2⟩ : ∃ W2, W2 = w.alloc (.cells #[.func (.func 31) #[] #[]] 60) := ⟨_, rfl⟩
  have hB2 : Below w.heap.size w W2 := by rw [hW2]; exact (Below.refl _ _).alloc (Nat.le_refl _) _
  have k1 : Blk W2 w.heap.size 60 #[.func (.func 31) #[] #[]] := by rw [hW2]; exact Blk.new _ _ _
  rw [← hW2]
  clear hW2
  refine (EqualFunc_Dt xs ys W2 _ _ F G w.heap.size ((k1.cell 0).trans (by simp)) k1.lt (ArrDt.below HX.out hB2 HF.out) (ArrDt.below HY.out hB2 HG.out) (HF.out.mono hB2.size) (HG.out.mono hB2.size)).mono ?_
  rintro e w' ⟨rfl, hB'⟩
  have hB3 := hB2.trans (hB'.mono hB2.size)
  generalize hbb : sameBy Dt.same xs ys = bb
  have HBB := Lib.hid hbb
  clear hbb
  go_wp2
  go_ret
  exact ⟨ret_bool HBB.out.symm, hB3⟩
end Go.Proofs.YtcknbkbejifhcaaDoor

namespace Go.Proofs.YtcknbkbejifhcaaDoor
open Go.RowKit

set_option maxRecDepth 100000 in
set_option maxHeartbeats 3200000 in
theorem spec_WorldSame (xs ys : List Dt) (w : World) (x y : Value) (F G : List Nat) (hx : Arr w (DtR w) xs x F) (hy : Arr w (DtR w) ys y G) (hF : Under w.heap.size F) (hG : Under w.heap.size G) :
    Calls Tryd.prog 14 #[x, y] w fun e w' => e = .returned (.bool (sameBy Dt.same xs ys)) ∧ Below w.heap.size w w' := by
  have HX := Lib.hid hx
  have HY := Lib.hid hy
  obtain ⟨A, cap, rfl, hc1, hc2⟩ := hx.form
  obtain ⟨A', cap', rfl, hc3, hc4⟩ := hy.form
  clear hx hy
  have HF := Lib.hid hF
  have HG := Lib.hid hG
  clear hF hG
  by_cases hl : xs.length = ys.length
  · have tl : ((xs.length : Int) != (ys.length : Int)) = false := by rw [hl]; simp
    have hle1 : xs.length ≤ ys.length := by omega
    have hle2 : ys.length ≤ xs.length := by omega
    clear hl
    go_enter Tryd.func14, Tryd.ntmps14
    go_wp2
    go_loopw [5] (fun i wr => ∃ k : Nat, k ≤ xs.length ∧ i = .int .i64 k ∧ Hid (sameBy Dt.same xs ys = sameBy Dt.same (xs.drop k) (ys.drop k)) ∧ Below w.heap.size w wr) (fun i _ => xs.length - (intOf i).toNat)
    case atStart => exact ⟨0, Nat.zero_le _, rfl, rfl, Below.refl _ _⟩
    case round =>
      obtain ⟨k, hk, rfl, HT, hBo⟩ := hrel
      obtain ⟨wo, rfl⟩ : ∃ wo : World, wo = wr := ⟨_, rfl⟩
      have HBo := Lib.hid hBo
      by_cases hlt : k < xs.length
      · have hlt' : k < ys.length := by omega
        have hi0 : (0 : Int) ≤ (k : Int) := by omega
        have hi1 : (k : Int) < (xs.length : Int) := by omega
        have hi2 : (k : Int) < (ys.length : Int) := by omega
        have hd := sameBy_drop (f := Dt.same) xs ys k hlt hlt'
        have HD := Lib.hid hd
        clear hd
        obtain ⟨b, off, cs, G1, rfl, hb, hcs, hv, hG1⟩ := HX.out.get DtR_len hlt
        obtain ⟨b2, off2, ds, G2, rfl, hb2, hds, hv2, hG2⟩ := HY.out.get DtR_len hlt'
        have hbl := HF.out b hb
        have hbl2 := HG.out b2 hb2
        have hGF1 := HF.out.sub hG1
        have hGF2 := HG.out.sub hG2
        obtain ⟨kv, rfl, ha, -⟩ := hv
        obtain ⟨kv2, rfl, ha2, -⟩ := hv2
        have HA := Lib.hid ha
        have HA2 := Lib.hid ha2
        obtain ⟨A1, cap1, rfl, hm1, hm2⟩ := ha.form
        obtain ⟨A2, cap2, rfl, hm3, hm4⟩ := ha2.form
        have HCS := Lib.hid hcs
        have HDS := Lib.hid hds
        have HGF1 := Lib.hid hGF1
        have HGF2 := Lib.hid hGF2
        have hcs1 := hcs.same (hBo.block b hbl)
        have hds1 := hds.same (hBo.block b2 hbl2)
        have c0 := hcs1 0 _ rfl
        have c1 := hcs1 1 _ rfl
        have d0 := hds1 0 _ rfl
        have d1 := hds1 1 _ rfl
        simp only [Nat.add_zero] at c0 d0
        clear hcs hds hcs1 hds1 ha ha2 hG1 hG2 hGF1 hGF2 hb hb2 hBo
        have HBq := Lib.hid (fun n => below_drewN HBo.out n)
        cases e0 : (xs[k].name.toList == ys[k].name.toList) with
        | false =>
          have hf : Hid (sameBy Dt.same xs ys = false) := by have hd := HD.out; unfold Dt.same at hd; rw [e0, Bool.false_and, Bool.false_and] at hd; exact HT.out.trans hd
          go_wp2_with fail
          go_quiet (fail)
          go_wp2
          go_ret
          exact ⟨ret_bool hf.out.symm, HBq.out _⟩
        | true =>
          have hs : Dt.same xs[k] ys[k] = sameBy Kt.same xs[k].ctors ys[k].ctors := by unfold Dt.same; rw [e0, Bool.true_and]
          have HSm := Lib.hid hs
          clear hs
          by_cases hlc : xs[k].ctors.length = ys[k].ctors.length
          · have tc : ((xs[k].ctors.length : Int) != (ys[k].ctors.length : Int)) = false := by rw [hlc]; simp
            have hq1 : xs[k].ctors.length ≤ ys[k].ctors.length := by omega
            have hq2 : ys[k].ctors.length ≤ xs[k].ctors.length := by omega
            clear hlc
            go_wp2_with fail
            go_quiet (fail)
            go_wp2
            go_loopw [6] (fun i wr => ∃ m : Nat, m ≤ xs[k].ctors.length ∧ i = .int .i64 m ∧ Hid (sameBy Kt.same xs[k].ctors ys[k].ctors = sameBy Kt.same (xs[k].ctors.drop m) (ys[k].ctors.drop m)) ∧ Below w.heap.size w wr) (fun i _ => xs[k].ctors.length - (intOf i).toNat)
            case atStart => exact ⟨0, Nat.zero_le _, rfl, rfl, HBq.out _⟩
            case round =>
              obtain ⟨m, hm, rfl, HT3, hB⟩ := hrel
              have hBs := hB.size
              have hcs1 := HCS.out.same (hB.block b hbl)
              have hds1 := HDS.out.same (hB.block b2 hbl2)
              clear c0 c1 d0 d1
              have c1 := hcs1 1 _ rfl
              have d1 := hds1 1 _ rfl
              clear hcs1 hds1
              by_cases hlm : m < xs[k].ctors.length
              · have hlm' : m < ys[k].ctors.length := by omega
                have hj0 : (0 : Int) ≤ (m : Int) := by omega
                have hj1 : (m : Int) < (xs[k].ctors.length : Int) := by omega
                have hj2 : (m : Int) < (ys[k].ctors.length : Int) := by omega
                have HD3 := Lib.hid (sameBy_drop (f := Kt.same) xs[k].ctors ys[k].ctors m hlm hlm')
                obtain ⟨b3, off3, es, G3, rfl, hb3, hes, hve, hG3⟩ := HA.out.get KtR_len hlm
                have hbl3 := HGF1.out b3 hb3
                have hGFe := HGF1.out.sub hG3
                have hwe := hve.below hB hGFe
                have hcse := hes.same (hB.block b3 hbl3)
                obtain ⟨A3, cap3, rfl⟩ := KtR_form hve
                have e0 := hcse 0 _ rfl
                have e1 := hcse 1 _ rfl
                have e2 := hcse 2 _ rfl
                simp only [Nat.add_zero] at e0
                clear hes hcse hve hG3
                have HV3 := Lib.hid hwe
                clear hwe
                have HG3 := Lib.hid hGFe
                clear hGFe
                obtain ⟨b4, off4, fs, G4, rfl, hb4, hfs, hvf, hG4⟩ := HA2.out.get KtR_len hlm'
                have hbl4 := HGF2.out b4 hb4
                have hGFf := HGF2.out.sub hG4
                have hwf := hvf.below hB hGFf
                have hcsf := hfs.same (hB.block b4 hbl4)
                obtain ⟨A4, cap4, rfl⟩ := KtR_form hvf
                have f0 := hcsf 0 _ rfl
                have f1 := hcsf 1 _ rfl
                have f2 := hcsf 2 _ rfl
                simp only [Nat.add_zero] at f0
                clear hfs hcsf hvf hG4
                have HV4 := Lib.hid hwf
                clear hwf
                have HG4 := Lib.hid hGFf
                clear hGFf
                cases hs : Kt.same xs[k].ctors[m] ys[k].ctors[m] with
                | true =>
                  have hT4 : Hid (sameBy Kt.same xs[k].ctors ys[k].ctors = sameBy Kt.same (xs[k].ctors.drop (m + 1)) (ys[k].ctors.drop (m + 1))) := by have hd := HD3.out; rw [hs, Bool.true_and] at hd; exact HT3.out.trans hd
                  have HS := Lib.hid hs
                  clear hs
                  go_wp2_with fail
                  have hkeep : ∀ U U' : World, (U.cell? ⟨b, off + k * 2 + 1, none⟩ = some (.slice (some ⟨b3, off3, none⟩) xs[k].ctors.length cap1) ∧ U.cell? ⟨b2, off2 + k * 2 + 1, none⟩ = some (.slice (some ⟨b4, off4, none⟩) ys[k].ctors.length cap2) ∧ U.cell? ⟨b3, off3 + m * 3, none⟩ = some (.string xs[k].ctors[m].name) ∧ U.cell? ⟨b3, off3 + m * 3 + 1, none⟩ = some (.slice A3 xs[k].ctors[m].args.length cap3) ∧ U.cell? ⟨b3, off3 + m * 3 + 2, none⟩ = some (.int .i64 xs[k].ctors[m].idx) ∧ U.cell? ⟨b4, off4 + m * 3, none⟩ = some (.string ys[k].ctors[m].name) ∧ U.cell? ⟨b4, off4 + m * 3 + 1, none⟩ = some (.slice A4 ys[k].ctors[m].args.length cap4) ∧ U.cell? ⟨b4, off4 + m * 3 + 2, none⟩ = some (.int .i64 ys[k].ctors[m].idx)) → Below U.heap.size U U' → wr.heap.size ≤ U.heap.size → (U'.cell? ⟨b, off + k * 2 + 1, none⟩ = some (.slice (some ⟨b3, off3, none⟩) xs[k].ctors.length cap1) ∧ U'.cell? ⟨b2, off2 + k * 2 + 1, none⟩ = some (.slice (some ⟨b4, off4, none⟩) ys[k].ctors.length cap2) ∧ U'.cell? ⟨b3, off3 + m * 3, none⟩ = some (.string xs[k].ctors[m].name) ∧ U'.cell? ⟨b3, off3 + m * 3 + 1, none⟩ = some (.slice A3 xs[k].ctors[m].args.length cap3) ∧ U'.cell? ⟨b3, off3 + m * 3 + 2, none⟩ = some (.int .i64 xs[k].ctors[m].idx) ∧ U'.cell? ⟨b4, off4 + m * 3, none⟩ = some (.string ys[k].ctors[m].name) ∧ U'.cell? ⟨b4, off4 + m * 3 + 1, none⟩ = some (.slice A4 ys[k].ctors[m].args.length cap4) ∧ U'.cell? ⟨b4, off4 + m * 3 + 2, none⟩ = some (.int .i64 ys[k].ctors[m].idx)) := fun U U' h hb hU => ⟨(hb.cell (Nat.lt_of_lt_of_le (show b < wr.heap.size from by omega) hU)).trans h.1, (hb.cell (Nat.lt_of_lt_of_le (show b2 < wr.heap.size from by omega) hU)).trans h.2.1, (hb.cell (Nat.lt_of_lt_of_le (show b3 < wr.heap.size from by omega) hU)).trans h.2.2.1, (hb.cell (Nat.lt_of_lt_of_le (show b3 < wr.heap.size from by omega) hU)).trans h.2.2.2.1, (hb.cell (Nat.lt_of_lt_of_le (show b3 < wr.heap.size from by omega) hU)).trans h.2.2.2.2.1, (hb.cell (Nat.lt_of_lt_of_le (show b4 < wr.heap.size from by omega) hU)).trans h.2.2.2.2.2.1, (hb.cell (Nat.lt_of_lt_of_le (show b4 < wr.heap.size from by omega) hU)).trans h.2.2.2.2.2.2.1, (hb.cell (Nat.lt_of_lt_of_le (show b4 < wr.heap.size from by omega) hU)).trans h.2.2.2.2.2.2.2⟩
                  have HKeep := Lib.hid hkeep
                  clear hkeep
                  go_region_held3 (fun w' => w'.cell? ⟨b, off + k * 2 + 1, none⟩ = some (.slice (some ⟨b3, off3, none⟩) xs[k].ctors.length cap1) ∧ w'.cell? ⟨b2, off2 + k * 2 + 1, none⟩ = some (.slice (some ⟨b4, off4, none⟩) ys[k].ctors.length cap2) ∧ w'.cell? ⟨b3, off3 + m * 3, none⟩ = some (.string xs[k].ctors[m].name) ∧ w'.cell? ⟨b3, off3 + m * 3 + 1, none⟩ = some (.slice A3 xs[k].ctors[m].args.length cap3) ∧ w'.cell? ⟨b3, off3 + m * 3 + 2, none⟩ = some (.int .i64 xs[k].ctors[m].idx) ∧ w'.cell? ⟨b4, off4 + m * 3, none⟩ = some (.string ys[k].ctors[m].name) ∧ w'.cell? ⟨b4, off4 + m * 3 + 1, none⟩ = some (.slice A4 ys[k].ctors[m].args.length cap4) ∧ w'.cell? ⟨b4, off4 + m * 3 + 2, none⟩ = some (.int .i64 ys[k].ctors[m].idx)) (first | assumption | (exact ⟨c1, d1, e0, e1, e2, f0, f1, f2⟩) | (exact HKeep.out wr.drew w' ⟨c1, d1, e0, e1, e2, f0, f1, f2⟩ hB' (Nat.le_refl _))) (first | (go_at_call 36; ((with_reducible refine (spec_l1SameCtor xs[k].ctors[m] ys[k].ctors[m] _ _ _ G3 G4 HV3.out.drew HV4.out.drew (Under.drew (HG3.out.mono hB.size)) (Under.drew (HG4.out.mono hB.size))).mono ?_); rintro e w' ⟨rfl, hB'⟩; rw [HS.out])))
                  have hB3 := hB.drew.trans (hB'.mono hB.size)
                  go_wp2
                  go_roundw
                  case rel => exact ⟨m + 1, by omega, by go_num, hT4, hB3⟩
                  case measure => simp [intOf]; omega
                | false =>
                  have hf : Hid (sameBy Dt.same xs ys = false) := by
                    have hd := HD3.out
                    rw [hs, Bool.false_and] at hd
                    have hd2 := HD.out
                    rw [HSm.out, HT3.out, hd, Bool.false_and] at hd2
                    exact HT.out.trans hd2
                  have HS := Lib.hid hs
                  clear hs
                  go_wp2_with fail
                  have hkeep : ∀ U U' : World, (U.cell? ⟨b, off + k * 2 + 1, none⟩ = some (.slice (some ⟨b3, off3, none⟩) xs[k].ctors.length cap1) ∧ U.cell? ⟨b2, off2 + k * 2 + 1, none⟩ = some (.slice (some ⟨b4, off4, none⟩) ys[k].ctors.length cap2) ∧ U.cell? ⟨b3, off3 + m * 3, none⟩ = some (.string xs[k].ctors[m].name) ∧ U.cell? ⟨b3, off3 + m * 3 + 1, none⟩ = some (.slice A3 xs[k].ctors[m].args.length cap3) ∧ U.cell? ⟨b3, off3 + m * 3 + 2, none⟩ = some (.int .i64 xs[k].ctors[m].idx) ∧ U.cell? ⟨b4, off4 + m * 3, none⟩ = some (.string ys[k].ctors[m].name) ∧ U.cell? ⟨b4, off4 + m * 3 + 1, none⟩ = some (.slice A4 ys[k].ctors[m].args.length cap4) ∧ U.cell? ⟨b4, off4 + m * 3 + 2, none⟩ = some (.int .i64 ys[k].ctors[m].idx)) → Below U.heap.size U U' → wr.heap.size ≤ U.heap.size → (U'.cell? ⟨b, off + k * 2 + 1, none⟩ = some (.slice (some ⟨b3, off3, none⟩) xs[k].ctors.length cap1) ∧ U'.cell? ⟨b2, off2 + k * 2 + 1, none⟩ = some (.slice (some ⟨b4, off4, none⟩) ys[k].ctors.length cap2) ∧ U'.cell? ⟨b3, off3 + m * 3, none⟩ = some (.string xs[k].ctors[m].name) ∧ U'.cell? ⟨b3, off3 + m * 3 + 1, none⟩ = some (.slice A3 xs[k].ctors[m].args.length cap3) ∧ U'.cell? ⟨b3, off3 + m * 3 + 2, none⟩ = some (.int .i64 xs[k].ctors[m].idx) ∧ U'.cell? ⟨b4, off4 + m * 3, none⟩ = some (.string ys[k].ctors[m].name) ∧ U'.cell? ⟨b4, off4 + m * 3 + 1, none⟩ = some (.slice A4 ys[k].ctors[m].args.length cap4) ∧ U'.cell? ⟨b4, off4 + m * 3 + 2, none⟩ = some (.int .i64 ys[k].ctors[m].idx)) := fun U U' h hb hU => ⟨(hb.cell (Nat.lt_of_lt_of_le (show b < wr.heap.size from by omega) hU)).trans h.1, (hb.cell (Nat.lt_of_lt_of_le (show b2 < wr.heap.size from by omega) hU)).trans h.2.1, (hb.cell (Nat.lt_of_lt_of_le (show b3 < wr.heap.size from by omega) hU)).trans h.2.2.1, (hb.cell (Nat.lt_of_lt_of_le (show b3 < wr.heap.size from by omega) hU)).trans h.2.2.2.1, (hb.cell (Nat.lt_of_lt_of_le (show b3 < wr.heap.size from by omega) hU)).trans h.2.2.2.2.1, (hb.cell (Nat.lt_of_lt_of_le (show b4 < wr.heap.size from by omega) hU)).trans h.2.2.2.2.2.1, (hb.cell (Nat.lt_of_lt_of_le (show b4 < wr.heap.size from by omega) hU)).trans h.2.2.2.2.2.2.1, (hb.cell (Nat.lt_of_lt_of_le (show b4 < wr.heap.size from by omega) hU)).trans h.2.2.2.2.2.2.2⟩
                  have HKeep := Lib.hid hkeep
                  clear hkeep
                  go_region_held3 (fun w' => w'.cell? ⟨b, off + k * 2 + 1, none⟩ = some (.slice (some ⟨b3, off3, none⟩) xs[k].ctors.length cap1) ∧ w'.cell? ⟨b2, off2 + k * 2 + 1, none⟩ = some (.slice (some ⟨b4, off4, none⟩) ys[k].ctors.length cap2) ∧ w'.cell? ⟨b3, off3 + m * 3, none⟩ = some (.string xs[k].ctors[m].name) ∧ w'.cell? ⟨b3, off3 + m * 3 + 1, none⟩ = some (.slice A3 xs[k].ctors[m].args.length cap3) ∧ w'.cell? ⟨b3, off3 + m * 3 + 2, none⟩ = some (.int .i64 xs[k].ctors[m].idx) ∧ w'.cell? ⟨b4, off4 + m * 3, none⟩ = some (.string ys[k].ctors[m].name) ∧ w'.cell? ⟨b4, off4 + m * 3 + 1, none⟩ = some (.slice A4 ys[k].ctors[m].args.length cap4) ∧ w'.cell? ⟨b4, off4 + m * 3 + 2, none⟩ = some (.int .i64 ys[k].ctors[m].idx)) (first | assumption | (exact ⟨c1, d1, e0, e1, e2, f0, f1, f2⟩) | (exact HKeep.out wr.drew w' ⟨c1, d1, e0, e1, e2, f0, f1, f2⟩ hB' (Nat.le_refl _))) (first | (go_at_call 36; ((with_reducible refine (spec_l1SameCtor xs[k].ctors[m] ys[k].ctors[m] _ _ _ G3 G4 HV3.out.drew HV4.out.drew (Under.drew (HG3.out.mono hB.size)) (Under.drew (HG4.out.mono hB.size))).mono ?_); rintro e w' ⟨rfl, hB'⟩; rw [HS.out])))
                  have hB3 := hB.drew.trans (hB'.mono hB.size)
                  go_wp2
                  go_ret
                  exact ⟨ret_bool hf.out.symm, hB3⟩
              · have hT5 : Hid (sameBy Dt.same xs ys = sameBy Dt.same (xs.drop (k + 1)) (ys.drop (k + 1))) := by
                  have h3 := HT3.out
                  rw [List.drop_of_length_le (by omega), List.drop_of_length_le (by omega)] at h3
                  have h4 : sameBy Kt.same xs[k].ctors ys[k].ctors = true := h3
                  have hd2 := HD.out
                  rw [HSm.out, h4, Bool.true_and] at hd2
                  exact HT.out.trans hd2
                go_wp2
                go_roundw
                case rel => exact ⟨k + 1, by omega, by go_num, hT5, hB⟩
                case measure => simp [intOf]; omega
          · have tc : ((xs[k].ctors.length : Int) != (ys[k].ctors.length : Int)) = true := by rw [bne_iff_ne]; omega
            have hf : Hid (sameBy Dt.same xs ys = false) := by have hd := HD.out; rw [HSm.out, sameBy_len_false hlc, Bool.false_and] at hd; exact HT.out.trans hd
            clear hlc
            go_wp2_with fail
            go_quiet (fail)
            go_wp2
            go_ret
            exact ⟨ret_bool hf.out.symm, HBq.out _⟩
      · have hT := HT.out
        rw [List.drop_of_length_le (by omega), List.drop_of_length_le (by omega)] at hT
        have hf : Hid (sameBy Dt.same xs ys = true) := hT
        clear hT
        go_wp2
        go_ret
        exact ⟨ret_bool hf.out.symm, HBo.out⟩
  · have tl : ((xs.length : Int) != (ys.length : Int)) = true := by rw [bne_iff_ne]; omega
    have hf := Lib.hid (sameBy_len_false (f := Dt.same) hl)
    clear hl
    go_enter Tryd.func14, Tryd.ntmps14
    go_wp2
    go_ret
    exact ⟨ret_bool hf.out.symm, Below.refl _ _⟩
end Go.Proofs.YtcknbkbejifhcaaDoor

namespace Go.Proofs.YtcknbkbejifhcaaDoor
open Go.ChangeShapes Go.WideShapes Go.ChangeAt Go.RowKit

section
variable {H : Type} {enc : TypeId × Value → H} {P : Program} {w : World} {base : Nat} {spare : Nat → Bool} {held : Bool}

theorem cell_lt {w : World} {a : Addr} {v : Value} (h : w.cell? a = some v) : a.block < w.heap.size := by
  rcases Nat.lt_or_ge a.block w.heap.size with hl | hl
  · exact hl
  · unfold World.cell? at h
    rw [Array.getElem?_eq_none hl] at h
    cases h

theorem open_Arr {α : Type} (R : α → List Value → List Nat → Prop) {t e : TypeId} {k n fuel : Nat} {cs : List Value} {x : DataW H × List MemPlace} (ht : P.underlying t = some (.slice e)) (hk : P.cellsOf e = k) (hk0 : 0 < k) (hf : fuel = n + 1)
    (hR : ∀ ds y, DataW.trod enc P w base spare held n e ds = some y → ds.length = k → ∃ a F, R a ds F ∧ Under w.heap.size F)
    (h : DataW.trod enc P w base spare held fuel t cs = some x) : ∃ xs v F, cs = [v] ∧ Arr w R xs v F ∧ Under w.heap.size F := by
  subst hf
  rcases DataW.trod_slice ht h with ⟨rfl, -⟩ | ⟨a, len, cap, elems, rest, m, hm, rfl, -, -, hl, hmax, hlen, hel, -, -⟩
  · exact ⟨[], _, [], rfl, Arr.nil, Under.nil _⟩
  · obtain rfl : n = m := by omega
    by_cases h0 : len = 0
    · subst h0
      exact ⟨[], _, [], rfl, ⟨_, _, rfl, hl, hmax, .inl ⟨rfl, rfl⟩⟩, Under.nil _⟩
    · have get : ∀ i, i < len → ∃ ds y, (∀ j, j < k → w.cell? (a.add (i * k + j)) = ds[j]?) ∧ ds.length = k ∧ DataW.trod enc P w base spare held n e ds = some y := fun i hi => by
        have h1 := hel i hi
        rw [List.getElem?_eq_getElem (by omega), Option.bind_eq_some_iff] at h1
        obtain ⟨ds, h2, h3⟩ := h1
        obtain ⟨-, h4, h5⟩ := World.cells?_some h2
        rw [hk] at h4 h5
        refine ⟨ds, _, fun j hj => ?_, h4, h3⟩
        rw [← h5 j hj]
        congr 1
        unfold Addr.add
        by_cases e1 : i * k = 0 <;> by_cases e2 : j = 0 <;> simp [e1, e2, Nat.add_assoc]
      obtain ⟨b, off, spot⟩ := a
      obtain ⟨ds0, y0, g1, g2, -⟩ := get 0 (by omega)
      have hc0 : w.cell? ⟨b, off, spot⟩ = some (ds0[0]'(by omega)) := by
        have := g1 0 hk0
        simpa [Addr.add, List.getElem?_eq_getElem (show 0 < ds0.length by omega)] using this
      have hspot : spot = none := by simpa using World.cell?_spot hc0
      subst hspot
      have hb : b < w.heap.size := cell_lt hc0
      have key : ∀ m, m ≤ len → ∃ (xs : List α) (cs : List Value) (F : List Nat), xs.length = m ∧ cs.length = m * k ∧ CellsAt w b off cs ∧ Flat R xs cs F ∧ Under w.heap.size F := by
        intro m
        induction m with
        | zero => intro _; exact ⟨[], [], [], rfl, by simp, fun j u hj => by simp at hj, ⟨rfl, rfl⟩, Under.nil _⟩
        | succ m ih =>
          intro hm
          obtain ⟨xs, cs, F, h1, h2, h3, h4, h5⟩ := ih (by omega)
          obtain ⟨ds, y, g1, g2, g3⟩ := get m (by omega)
          obtain ⟨z, G, r1, r2⟩ := hR ds y g3 g2
          refine ⟨xs ++ [z], cs ++ ds, F ++ G, by simp [h1], by simp [h2, g2, Nat.add_mul], h3.append (fun j u hj => ?_), h4.append (Flat.one r1), fun c hc => ?_⟩
          · have hjk : j < k := by rw [← g2]; exact (List.getElem?_eq_some_iff.1 hj).1
            have := g1 j hjk
            rw [hj, Addr.add_lit] at this
            rw [h2, ← this]
            congr 2
            omega
          · rcases List.mem_append.1 hc with hc | hc
            · exact h5 c hc
            · exact r2 c hc
      obtain ⟨xs, cs, F, h1, h2, h3, h4, h5⟩ := key len (Nat.le_refl _)
      refine ⟨xs, _, b :: F, rfl, ⟨_, _, by rw [h1], by omega, hmax, .inr ⟨b, off, cs, F, rfl, h3, h4, rfl⟩⟩, fun c hc => ?_⟩
      rcases List.mem_cons.1 hc with rfl | hc
      · exact hb
      · exact h5 c hc

theorem one_field {fs : Array Field} {n : Nat} {cs : List Value} {xs : List (DataW H × List MemPlace)}
    (hf : ∀ (i : Nat) (f : Field), fs[i]? = some f → DataW.trod enc P w base spare held n f.type ((cs.drop f.offset).take (P.cellsOf f.type)) = xs[i]?)
    (hone : Deep.oneCellFields P fs = true) (hxl : xs.length = fs.size) (i : Nat) (f : Field) (hi : fs[i]? = some f) (c : Value) (hc : cs[i]? = some c) :
    ∃ y, DataW.trod enc P w base spare held n f.type [c] = some y := by
  obtain ⟨h1, h2⟩ := Deep.hone_of hone i f hi
  have h := hf i f hi
  have hlt : i < fs.size := (Array.getElem?_eq_some_iff.1 hi).1
  rw [List.getElem?_eq_getElem (show i < xs.length by omega), h1, h2] at h
  obtain ⟨hlc, hcc⟩ := List.getElem?_eq_some_iff.1 hc
  rw [List.drop_eq_getElem_cons hlc, hcc] at h
  exact ⟨_, h⟩

theorem sub_field {fs : Array Field} {n : Nat} {cs : List Value} {xs : List (DataW H × List MemPlace)}
    (hf : ∀ (i : Nat) (f : Field), fs[i]? = some f → DataW.trod enc P w base spare held n f.type ((cs.drop f.offset).take (P.cellsOf f.type)) = xs[i]?)
    (hxl : xs.length = fs.size) (i : Nat) (f : Field) (hi : fs[i]? = some f) (k off : Nat) (hk : P.cellsOf f.type = k) (ho : f.offset = off) :
    ∃ y, DataW.trod enc P w base spare held n f.type ((cs.drop off).take k) = some y := by
  have h := hf i f hi
  have hlt : i < fs.size := (Array.getElem?_eq_some_iff.1 hi).1
  rw [List.getElem?_eq_getElem (show i < xs.length by omega), hk, ho] at h
  exact ⟨_, h⟩

theorem open_slice_arg {α : Type} (R : α → List Value → List Nat → Prop) {t e : TypeId} {k : Nat} {r : Reach} {b0 : Nat} {v : Value} {d : DataW H} {ps : List MemPlace} (ht : P.underlying t = some (.slice e)) (hk : P.cellsOf e = k) (hk0 : 0 < k)
    (hR : ∀ n ds y, DataW.trod enc P w base spare held n e ds = some y → ∃ a F, R a ds F ∧ Under w.heap.size F)
    (hval : Value.okWide P w r b0 t v) (h : DataW.Trod enc P w base spare held t v d ps) : ∃ xs F, Arr w R xs v F ∧ Under w.heap.size F := by
  obtain ⟨a, len, cap, rfl⟩ := okWide_slice ht hval
  obtain ⟨fuel, hf⟩ := h
  cases fuel with
  | zero => simp [DataW.trod] at hf
  | succ n =>
    obtain ⟨xs, v, F, hv, ha, hF⟩ := open_Arr R ht hk hk0 rfl (fun ds y hd _ => hR n ds y hd) hf
    have : v = .slice a len cap := by simpa [Value.cells] using hv.symm
    subst this
    exact ⟨xs, F, ha, hF⟩
end
end Go.Proofs.YtcknbkbejifhcaaDoor
