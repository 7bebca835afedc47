/-
  Lemmas and contracts of functions: l1Mutate of the reference: a copy of a world, sometimes made invalid. Conditions: its lists are short; the reader has given no more than 900000 numbers. l3Name of the reference at a node. Conditions: the reader has given no more than 900000 numbers. l3Name of the reference at a pattern for all values, and all. Conditions: the reader has given no more than 900000 numbers. Small functions of the reference on patterns: l3Kids, l3Own, l3Types. Conditions: the world is valid.
-/
import Derived.Test.YtilndhmegaccmaaKAF
import Derived.Test.YtilndhmegaccmaaKAB
import Derived.Test.YtilndhmegaccmaaKAC
import Derived.Deep.RegionWith
import Derived.Test.YtilndhmegaccmaaKAA
import Derived.Deep.RegionHeld3
import Derived.Deep.QuietTactic
import Derived.BigQuiet

set_option linter.unusedVariables false
set_option linter.unusedSimpArgs false
set_option maxRecDepth 100000
set_option maxHeartbeats 1600000

namespace Go.Proofs.Ytilndhmegaccmaa
open Go.RowKit
def LitN (w : World) (b : Nat) (ls : List Int) : Prop := b < w.heap.size ∧ Arr w (NatR w) ls (.slice (some ⟨b, 0, none⟩) ls.length ls.length) [b]
theorem LitN.new (w : World) (ls : List Int) (hl : ls.length ≤ 1000) : LitN (w.alloc (.cells (ls.map (Value.int .i64)).toArray 3)) w.heap.size ls := ⟨by simp, lit_nums w ls hl⟩
theorem LitN.chg {w w' : World} {b : Nat} {ls : List Int} {F : List Nat} (h : LitN w b ls) (hc : Chg F w w') (hb : b ∉ F) : LitN w' b ls :=
 ⟨zz9 h.1 hc.size, h.2.mono (hc.kept (fun x hx => by rw [List.mem_singleton.1 hx]; exact h.1) (fun x hx => by rw [List.mem_singleton.1 hx]; exact hb)) fun _ _ _ _ _ h => h⟩
theorem LitN.alloc {w : World} {b : Nat} {ls : List Int} (h : LitN w b ls) (o : Obj) : LitN (w.alloc o) b ls := h.chg (F := []) (.of_below ((zy2 _ _).alloc (zz8 _) _)) (by simp)
theorem LitN.new2 (w : World) (o : Obj) (ls : List Int) (hl : ls.length ≤ 1000) : LitN ((w.alloc o).alloc (.cells (ls.map (Value.int .i64)).toArray 3)) (w.heap.size + 1) ls := by
 have h := LitN.new (w.alloc o) ls hl
 rwa [World.size_alloc] at h
theorem Chg.alloc {F : List Nat} {w w' : World} (h : Chg F w w') (o : Obj) : Chg F w (w'.alloc o) := h.step ((zy2 _ _).alloc (zz8 _) _)
theorem num_at {w : World} {b : Nat} {ls : List Int} (hb : LitN w b ls) (hl1 : 1 ≤ ls.length) (hl2 : ls.length ≤ 1000) (p g : Nat) (h : Rd w g p) (hp : p ≤ 1000000) (hg : b ≠ g) :
  Calls Try.prog 73 #[.pointer (some ⟨g, 0, none⟩), .slice (some ⟨b, 0, none⟩) ls.length ls.length] w fun e w' => ∃ x, e = .returned (.int .i64 x) ∧ Rd w' g (p + 1) ∧ Chg [g] w w' := by
 refine (num_any ls hl1 hl2 p g w h hp _ _ hb.2 (fun x hx => by rw [List.mem_singleton.1 hx]; exact hb.1) (fun e => hg (List.mem_singleton.1 e).symm)).mono ?_
 rintro e w' ⟨x, -, rfl, hR, hC⟩
 exact ⟨x, rfl, hR, hC⟩
set_option maxHeartbeats 6400000 in
theorem spec_l1Mutate (p g : Nat) (w : World) (h : Rd w g p) (hp : p ≤ 900000) (xs : List Dt) (v : Value) (F : List Nat) (hx : Arr w (DtR w) xs v F) (hf : Under w.heap.size F) (h0 : 0 < xs.length) (hl : xs.length ≤ 99) (m : Nat) (hm : m ≤ 90) (hs : SmallW m xs) :
  Calls Try.prog 56 #[.pointer (some ⟨g, 0, none⟩), v] w (Mutd g p m xs w) := by
 have hgl := h.lt
 have HR0 := jj h
 have HCALL := jj (spec_l1Copy xs w v F hx hf (by omega) (hs.mono (by omega)))
 have HSM := jj hs
 have HMM := jj hm
 clear h hx hf hs hm
 obtain ⟨j0, hj, hj0, hj1, hj2⟩ := info_parts info_tyE
 have HJ := jj hj
 have HJ0 := jj hj0
 have HJ1 := jj hj1
 have HJ2 := jj hj2
 clear hj hj0 hj1 hj2
 obtain ⟨m0, hm, hm0, hm1, hm2⟩ := info_parts info_DtE
 have HM := jj hm
 have HM0 := jj hm0
 have HM1 := jj hm1
 have HM2 := jj hm2
 clear hm hm0 hm1 hm2
 go_enter Try.func56, Try.ntmps56
 go_wp2_with fail
 refine HCALL.out.mono ?_
 rintro e w1 ⟨v1, F1, rfl, hb1, ho1, hfr1, hfs1⟩
 have hCpy : Cpy g p xs v1 F1 w w1 := ⟨HR0.out.below hb1, Chg.of_below hb1, ho1, hfr1, fun b hb => by have := hfs1 b hb; omega, hgl⟩
 obtain ⟨A1, cap1, rfl, hc1, hc2⟩ := ho1.form
 obtain ⟨FF, ha1, -, -⟩ := hCpy.arr
 obtain ⟨b, off, rfl⟩ := ha1.ptr h0
 have HC1 := jj hCpy
 clear hCpy ho1 ha1 hb1 hfr1 hfs1 HCALL HR0
 go_wp2_with fail
 refine (zAF xs.length p g w1 HC1.out.rd (by omega) h0 (by omega)).mono ?_
 rintro e w2 ⟨d, rfl, hd, hR2, hC2⟩
 have HC2 := jj (HC1.out.step hR2 hC2)
 clear hR2 hC2 HC1
 have g1 : (0 : Int) ≤ (d : Int) := by omega
 have g2 : (d : Int) < (xs.length : Int) := by omega
 obtain ⟨kA, kcap, F2, n0, k0, z0, hb, hbl, hk1, hk2, hdx, hF2, hname, hctors⟩ := HC2.out.data (p := p) h0 HSM.out hd
 clear n0 z0 hb hbl hdx hF2 hname hctors
 cases q0 : ((xs[d].ctors.length : Int) == 0) with
 |true =>
  have HFin := jj (HC2.out.done (p := p) h0 HSM.out (by omega))
  clear HC2
  go_wp2
  go_ret
  exact HFin.out
 |false =>
  have hk0 : 0 < xs[d].ctors.length := by rw [beq_eq_false_iff_ne] at q0; omega
  have e0 : (0 : Int) < (xs[d].ctors.length : Int) := by omega
  go_wp2_with fail
  refine (zAF 30 (p + 1) g w2 HC2.out.rd (by omega) (by omega) (by omega)).mono ?_
  rintro e w3 ⟨r, rfl, hr, hR3, hC3⟩
  have HC3 := jj (HC2.out.step hR3 hC3)
  clear hR3 hC3 HC2 k0 hk1 hk2
  cases c0q : ((r : Int) == 0) with
  |true =>
   go_wp2_with fail
   refine (of_lit [⟨#[73]⟩, ⟨#[]⟩, ⟨#[97]⟩, ⟨#[76, 76]⟩, ⟨#[90]⟩] (by decide) (by decide) (p + 1 + 1) g w3 HC3.out.rd (by omega)).mono ?_
   rintro e w4 ⟨s, hs, rfl, hR4, hC4⟩
   have hsz : s.size ≤ 1000 := by
    have hall : ∀ x ∈ ([⟨#[73]⟩, ⟨#[]⟩, ⟨#[97]⟩, ⟨#[76, 76]⟩, ⟨#[90]⟩] : List ByteArray), x.size ≤ 1000 := by decide
    exact hall s hs
   have HC4 := jj (HC3.out.step hR4 hC4)
   clear hR4 hC4 HC3 hs
   obtain ⟨kA, kcap, F2, n0, k0, z0, hb, hbl, hk1, hk2, hdx, hF2, hname, hctors⟩ := HC4.out.data (p := p) h0 HSM.out hd
   have f0 := z0 (off + d * 2)
   have HFin := jj (hname s hsz (by omega))
   clear k0 z0 hb hk1 hk2 hdx hF2 hname hctors HC4
   go_wp2
   go_ret
   exact HFin.out
  |false =>
   cases c1q : ((r : Int) == 1) with
   |true =>
    obtain ⟨kA, kcap, F2, n0, k0, z0, hb, hbl, hk1, hk2, hdx, hF2, hname, hctors⟩ := HC3.out.data (p := p) h0 HSM.out hd
    have f0 : (w3.alloc (.cells #[] 138)).frozen? ⟨b, off + d * 2 + 1, none⟩ = false := (World.frozen?_of_block (a := ⟨b, off + d * 2 + 1, none⟩) (Below.heap_alloc _ _ _ hbl)).trans (z0 _)
    have y0 : (w3.alloc (.cells #[] 138)).cell? ⟨b, off + d * 2 + 1, none⟩ = some (.slice kA xs[d].ctors.length kcap) := (World.cell?_alloc_lt _ _ _ hbl).trans k0
    have HFin := jj (hctors 138 (by omega))
    clear n0 k0 z0 hb hk1 hk2 hdx hF2 hname hctors HC3
    go_wp2
    go_ret
    exact HFin.out
   |false =>
    cases c2q : ((r : Int) == 2) with
    |true =>
     have hCd := HC3.out.drew
     clear HC3
     obtain ⟨b2, off2, cap2, aA, acap, kc, hbb, hbg, hb2g, hbl, hb2l, hz2, c0, c1, c2, hown, hrow, hal, H2, H4, H3⟩ := hCd.ctor (p := p) h0 HSM.out hd hk0
     have HH := jj H2
     have hR3 := jj hCd.rd
     have f3 := hz2 (off2)
     clear c1 c2 hown hrow hal H2 H4 H3 hCd hz2
     go_wp2_with fail
     refine zA7 (S := fun w' => w'.cell? ⟨b, off + d * 2 + 1, none⟩ = some (.slice (some ⟨b2, off2, none⟩) xs[d].ctors.length cap2)) (T := fun _ => True) (d := 10) (by kernel_rfl) ?_
     generalize w3.drew = wd at *
     have hS1 : wd.cell? ⟨b, off + d * 2 + 1, none⟩ = some (.slice (some ⟨b2, off2, none⟩) xs[d].ctors.length cap2) := kc
     have hT1 : True := trivial
     refine wU (i := 0) (v := ?_) rfl (Or.inl ⟨by rfl, ?hy0⟩) hS1 (fun _ => hT1) ?_
     case hy0 => (intro W hSw; (try dsimp only at hSw); go_simp; try with_reducible rfl)
     (try simp only [Act.put, zz4, zz5, zz6])
     refine wU (i := 1) (v := ?_) rfl (Or.inl ⟨by rfl, ?hy1⟩) hS1 (fun _ => hT1) ?_
     case hy1 => (intro W hSw; (try dsimp only at hSw); go_simp; try with_reducible rfl)
     (try simp only [Act.put, zz4, zz5, zz6])
     refine wU (i := 2) (v := ?_) rfl (Or.inl ⟨by rfl, ?hy2⟩) hS1 (fun _ => hT1) ?_
     case hy2 => (intro W hSw; (try dsimp only at hSw); go_simp; try with_reducible rfl)
     (try simp only [Act.put, zz4, zz5, zz6])
     refine wU (i := 3) (v := ?_) rfl (Or.inl ⟨by rfl, ?hy3⟩) hS1 (fun _ => hT1) ?_
     case hy3 => (intro W hSw; (try dsimp only at hSw); go_simp; try with_reducible rfl)
     (try simp only [Act.put, zz4, zz5, zz6])
     refine wU (i := 4) (v := ?_) rfl (Or.inl ⟨by rfl, ?hy4⟩) hS1 (fun _ => hT1) ?_
     case hy4 => (intro W hSw; (try dsimp only at hSw); go_simp; try with_reducible rfl)
     (try simp only [Act.put, zz4, zz5, zz6])
     refine wU (i := 5) (v := ?_) rfl (Or.inl ⟨by rfl, ?hy5⟩) hS1 (fun _ => hT1) ?_
     case hy5 => (intro W hSw; (try dsimp only at hSw); go_simp; try with_reducible rfl)
     (try simp only [Act.put, zz4, zz5, zz6])
     refine wR (rs := [6]) (by kernel_rfl) (by simp) ?_
     refine AllReadyB.c rfl (fun K hK => ?_) AllReadyB.n
     go_simp
     refine hK.out _ _ ((World.cell?_alloc_lt _ _ _ hbl).trans kc) (fun _ => trivial) ?_
     clear hK K
     (try simp only [Act.put, zz4, zz5, zz6])
     refine wR (rs := [7]) (by kernel_rfl) (by simp) ?_
     refine AllReadyB.c rfl (fun K hK => ?_) AllReadyB.n
     go_simp
     go_at_call 101
     refine (of_lit [⟨#[]⟩, ⟨#[110, 105, 108]⟩, ⟨#[84, 111, 111, 108, 111, 110, 103]⟩, ⟨#[88]⟩] (by decide) (by decide) (p + 1 + 1) g wd hR3.out (by omega)).mono ?_
     rintro e w4 ⟨s, hs, rfl, hR4, hC4⟩
     have hC5 := hC4
     have hsz : s.size ≤ 1000 := by
      have hall : ∀ x ∈ ([⟨#[]⟩, ⟨#[110, 105, 108]⟩, ⟨#[84, 111, 111, 108, 111, 110, 103]⟩, ⟨#[88]⟩] : List ByteArray), x.size ≤ 1000 := by decide
      exact hall s hs
     have hS4 : w4.cell? ⟨b, off + d * 2 + 1, none⟩ = some (.slice (some ⟨b2, off2, none⟩) xs[d].ctors.length cap2) := (hC5.cell hbl hbg).trans kc
     have x4 : w4.cell? ⟨b2, off2, none⟩ = some (.string xs[d].ctors[0].name) := (hC5.cell hb2l hb2g).trans c0
     have f4 : w4.frozen? ⟨b2, off2, none⟩ = false := (World.frozen?_of_block (a := ⟨b2, off2, none⟩) (hC5.block _ hb2l hb2g)).trans f3
     have HFin := jj (HH.out w4 _ s hR4 hC5 (by omega) hsz)
     dsimp only
     refine hK.out _ _ hS4 (fun _ => trivial) ?_
     clear hK K
     (try simp only [Act.put, zz4, zz5, zz6])
     refine wU (i := 8) (v := ?_) rfl (Or.inl ⟨by rfl, ?hy8⟩) hS4 (fun _ => hT1) ?_
     case hy8 => (intro W hSw; (try dsimp only at hSw); go_simp; try with_reducible rfl)
     (try simp only [Act.put, zz4, zz5, zz6])
     refine wU (i := 9) (v := ?_) rfl (Or.inl ⟨by rfl, ?hy9⟩) hS4 (fun _ => hT1) ?_
     case hy9 => (intro W hSw; (try dsimp only at hSw); go_simp; try with_reducible rfl)
     (try simp only [Act.put, zz4, zz5, zz6])
     refine wR (rs := [10]) (by kernel_rfl) (by simp) ?_
     refine AllReadyB.c rfl (fun K hK => ?_) AllReadyB.n
     go_simp
     refine hK.out _ _ ((World.cell?_setCell_far _ _ _ _ (by show b2 ≠ b; exact fun e => hbb e.symm)).trans hS4) (fun _ => trivial) ?_
     clear hK K
     (try simp only [Act.put, zz4, zz5, zz6])
     refine wE (by kernel_rfl) ?_
     clear hS1 hT1 hS4 x4 f4 hC5 hC4 hR4 HH hR3 f3 kc c0
     go_wp2
     go_ret
     exact HFin.out
    |false =>
     cases c3q : ((r : Int) == 3) with
     |true =>
      have hCd := HC3.out.drew
      clear HC3
      obtain ⟨b2, off2, cap2, aA, acap, kc, hbb, hbg, hb2g, hbl, hb2l, hz2, c0, c1, c2, hown, hrow, hal, H2, H4, H3⟩ := hCd.ctor (p := p) h0 HSM.out hd hk0
      have HH := jj H3
      have HRD := jj hCd.rd
      have f3 := hz2 (off2 + 1)
      have HOWN := jj hown
      have HROW := jj hrow
      have hm90 := HMM.out
      have hmx : xs[d].ctors[0].args.length + 1 ≤ maxLen := by unfold maxLen; omega
      have hby : (xs[d].ctors[0].args.length + 1) * 16 ≤ 140737488355328 := by omega
      clear hm90
      have hgl3 : g < w3.drew.heap.size := hCd.rd.lt
      have hgs : w3.drew.heap.size ≠ g := by omega
      have hgs1 : w3.drew.heap.size + 1 ≠ g := by omega
      clear c0 c2 hown hrow H2 H4 H3 hCd hz2
      go_wp2_with fail
      refine zA7 (S := fun w' => w'.cell? ⟨b, off + d * 2 + 1, none⟩ = some (.slice (some ⟨b2, off2, none⟩) xs[d].ctors.length cap2)) (T := fun w' => w'.cell? ⟨b2, off2 + 1, none⟩ = some (.slice aA xs[d].ctors[0].args.length acap)) (d := 21) (by kernel_rfl) ?_
      generalize w3.drew = wd at *
      have hS1 : wd.cell? ⟨b, off + d * 2 + 1, none⟩ = some (.slice (some ⟨b2, off2, none⟩) xs[d].ctors.length cap2) := kc
      have hT1 : wd.cell? ⟨b2, off2 + 1, none⟩ = some (.slice aA xs[d].ctors[0].args.length acap) := c1
      refine wU (i := 0) (v := ?_) rfl (Or.inl ⟨by rfl, ?hy0⟩) hS1 (fun _ => hT1) ?_
      case hy0 => (intro W hSw; (try dsimp only at hSw); go_simp; try with_reducible rfl)
      (try simp only [Act.put, zz4, zz5, zz6])
      refine wU (i := 1) (v := ?_) rfl (Or.inl ⟨by rfl, ?hy1⟩) hS1 (fun _ => hT1) ?_
      case hy1 => (intro W hSw; (try dsimp only at hSw); go_simp; try with_reducible rfl)
      (try simp only [Act.put, zz4, zz5, zz6])
      refine wU (i := 2) (v := ?_) rfl (Or.inl ⟨by rfl, ?hy2⟩) hS1 (fun _ => hT1) ?_
      case hy2 => (intro W hSw; (try dsimp only at hSw); go_simp; try with_reducible rfl)
      (try simp only [Act.put, zz4, zz5, zz6])
      refine wU (i := 3) (v := ?_) rfl (Or.inl ⟨by rfl, ?hy3⟩) hS1 (fun _ => hT1) ?_
      case hy3 => (intro W hSw; (try dsimp only at hSw); go_simp; try with_reducible rfl)
      (try simp only [Act.put, zz4, zz5, zz6])
      refine wU (i := 4) (v := ?_) rfl (Or.inl ⟨by rfl, ?hy4⟩) hS1 (fun _ => hT1) ?_
      case hy4 => (intro W hSw; (try dsimp only at hSw); go_simp; try with_reducible rfl)
      (try simp only [Act.put, zz4, zz5, zz6])
      refine wU (i := 5) (v := ?_) rfl (Or.inl ⟨by rfl, ?hy5⟩) hS1 (fun _ => hT1) ?_
      case hy5 => (intro W hSw; (try dsimp only at hSw); go_simp; try with_reducible rfl)
      (try simp only [Act.put, zz4, zz5, zz6])
      refine wU (i := 6) (v := ?_) rfl (Or.inl ⟨by rfl, ?hy6⟩) hS1 (fun _ => hT1) ?_
      case hy6 => (intro W hSw; (try dsimp only at hSw); go_simp; try with_reducible rfl)
      (try simp only [Act.put, zz4, zz5, zz6])
      refine wU (i := 7) (v := ?_) rfl (Or.inl ⟨by rfl, ?hy7⟩) hS1 (fun _ => hT1) ?_
      case hy7 => (intro W hSw; (try dsimp only at hSw); go_simp; try with_reducible rfl)
      (try simp only [Act.put, zz4, zz5, zz6])
      refine wU (i := 8) (v := ?_) rfl (Or.inl ⟨by rfl, ?hy8⟩) hS1 (fun _ => hT1) ?_
      case hy8 => (intro W hSw; (try dsimp only at hSw); go_simp; try with_reducible rfl)
      (try simp only [Act.put, zz4, zz5, zz6])
      refine wU (i := 9) (v := ?_) rfl (Or.inl ⟨by rfl, ?hy9⟩) hS1 (fun _ => hT1) ?_
      case hy9 => (intro W hSw; (try dsimp only at hSw); go_simp; try with_reducible rfl)
      (try simp only [Act.put, zz4, zz5, zz6])
      refine wU (i := 10) (v := ?_) rfl (Or.inl ⟨by rfl, ?hy10⟩) hS1 (fun _ => hT1) ?_
      case hy10 => (intro W hSw; (try dsimp only at hSw); go_simp; try with_reducible rfl)
      (try simp only [Act.put, zz4, zz5, zz6])
      refine wU (i := 11) (v := ?_) rfl (Or.inl ⟨by rfl, ?hy11⟩) hS1 (fun _ => hT1) ?_
      case hy11 => (intro W hSw; (try dsimp only at hSw); go_simp; try with_reducible rfl)
      (try simp only [Act.put, zz4, zz5, zz6])
      refine zAU (i := 12) (v := ?_) rfl (by decide) rfl (by kernel_rfl) (by kernel_rfl) (by kernel_rfl) (by kernel_rfl) (fun _ _ _ h => h) (Or.inl ⟨by rfl, ?hy12⟩) (by rfl) hS1 hT1 ?_
      case hy12 => (intro W hSw; (try dsimp only at hSw); go_simp; try with_reducible rfl)
      (try simp only [Act.put, zz4, zz5, zz6])
      refine wU (i := 13) (v := ?_) rfl (Or.inl ⟨by rfl, ?hy13⟩) hS1 (fun _ => hT1) ?_
      case hy13 => (intro W hSw; (try dsimp only at hSw); go_simp; try with_reducible rfl)
      (try simp only [Act.put, zz4, zz5, zz6])
      refine wU (i := 16) (v := ?_) rfl (Or.inl ⟨by rfl, ?hy16⟩) hS1 (fun _ => hT1) ?_
      case hy16 => (intro W hSw; (try dsimp only at hSw); go_simp; try with_reducible rfl)
      (try simp only [Act.put, zz4, zz5, zz6])
      refine wR (rs := [14, 17]) (by kernel_rfl) (by simp) ?_
      refine AllReadyB.c rfl (fun K hK => ?_) (AllReadyB.c rfl (fun K hK => ?_) AllReadyB.n)
      ·go_simp
       refine hK.out _ _ (((Chg.refl [g] wd).alloc _).cell hbl hbg |>.trans kc) (fun _ => ((Chg.refl [g] wd).alloc _).cell hb2l hb2g |>.trans c1) ?_
       clear hK K
       (try simp only [Act.put, zz4, zz5, zz6])
       refine wR (rs := [15, 17]) (by kernel_rfl) (by simp) ?_
       refine AllReadyB.c rfl (fun K hK => ?_) (AllReadyB.c rfl (fun K hK => ?_) AllReadyB.n)
       ·go_simp
        go_at_call 73
        refine (num_at (LitN.new wd [9, -2, 0, -1] (by decide)) (by decide) (by decide) (p + 1 + 1) g (HRD.out.below ((zy2 _ _).alloc (zz8 _) _)) (by omega) hgs).mono ?_
        rintro e w5 ⟨x, rfl, hRw5, hCw5⟩
        have hC5 : Chg [g] wd w5 := ((Chg.refl [g] wd).alloc _).trans hCw5
        dsimp only
        refine hK.out _ _ (((hC5).cell hbl hbg).trans kc) (fun _ => ((hC5).cell hb2l hb2g).trans c1) ?_
        clear hK K
        (try simp only [Act.put, zz4, zz5, zz6])
        refine wR (rs := [17]) (by kernel_rfl) (by simp) ?_
        refine AllReadyB.c rfl (fun K hK => ?_) AllReadyB.n
        go_simp
        refine hK.out _ _ (((hC5).alloc _).cell hbl hbg |>.trans kc) (fun _ => ((hC5).alloc _).cell hb2l hb2g |>.trans c1) ?_
        clear hK K
        (try simp only [Act.put, zz4, zz5, zz6])
        refine wR (rs := [18]) (by kernel_rfl) (by simp) ?_
        refine AllReadyB.c rfl (fun K hK => ?_) AllReadyB.n
        go_simp
        go_at_call 73
        refine (num_at (LitN.new w5 [0, 4, -1, -2] (by decide)) (by decide) (by decide) (p + 1 + 1 + 1) g (hRw5.below ((zy2 _ _).alloc (zz8 _) _)) (by omega) (by have := hC5.size; omega)).mono ?_
        rintro e w6 ⟨y, rfl, hRw6, hCw6⟩
        have hC6 : Chg [g] wd w6 := (hC5.alloc _).trans hCw6
        have hSE : w6.cell? ⟨b, off + d * 2 + 1, none⟩ = some (.slice (some ⟨b2, off2, none⟩) xs[d].ctors.length cap2) := ((hC6).cell hbl hbg).trans kc
        have hTE : w6.cell? ⟨b2, off2 + 1, none⟩ = some (.slice aA xs[d].ctors[0].args.length acap) := ((hC6).cell hb2l hb2g).trans c1
        have HOE : Hid (Own w6 0 32 2 TyR xs[d].ctors[0].args (.slice aA xs[d].ctors[0].args.length acap) []) := HOWN.out.mono0 (w' := w6) (fun x cs G (h : TyR wd x cs G) => (h : TyR w6 x cs G)) ((hC6).kept (fun x hx => (HROW.out x hx).2.2.2) (fun x hx => (HROW.out x hx).1))
        have hzE : wd.heap.size ≤ w6.heap.size := (hC6).size
        have hfE : w6.frozen? ⟨b2, off2 + 1, none⟩ = false := (World.frozen?_of_block (a := ⟨b2, off2 + 1, none⟩) ((hC6).block _ hb2l hb2g)).trans f3
        have hFinE := HH.out w6 (p + 1 + 1 + 1 + 1) ⟨x, y⟩
        have HFE := jj (fun g' c' w3' o => hFinE g' c' w3' o hRw6 (hC6) (by omega))
        clear hFinE
        dsimp only
        refine hK.out _ _ hSE (fun _ => hTE) ?_
        clear hK K
        (try simp only [Act.put, zz4, zz5, zz6])
        refine wU (i := 19) (v := ?_) rfl (Or.inl ⟨by rfl, ?hy19⟩) hSE (fun _ => hTE) ?_
        case hy19 => (intro W hSw; (try dsimp only at hSw); go_simp; try with_reducible rfl)
        (try simp only [Act.put, zz4, zz5, zz6])
        refine wR (rs := [20]) (by kernel_rfl) (by simp) ?_
        refine AllReadyB.c rfl (fun K hK => ?_) AllReadyB.n
        go_simp
        refine hK.out _ _ ((World.cell?_alloc_lt _ _ _ (zz9 hbl hzE)).trans hSE) (fun _ => (World.cell?_alloc_lt _ _ _ (zz9 hb2l hzE)).trans hTE) ?_
        clear hK K
        (try simp only [Act.put, zz4, zz5, zz6])
        refine wR (rs := [21]) (by kernel_rfl) (by simp) ?_
        refine AllReadyB.c rfl (fun K hK => ?_) AllReadyB.n
        refine zAZ (P := Try.prog) rfl _ _ 136 rfl j0 _ 16 Try.underlying136 HJ.out HJ0.out HJ1.out HJ2.out rfl (by decide) TyR_len' TyR_mono' (by rfl) HOE.out ⟨x, y⟩ 32 [.int .i64 x, .int .i64 y] [] _ (by rfl) rfl (by simp [Value.oneCell']) ⟨rfl, rfl⟩ (Under.nil _) (fun _ _ h => by cases h) hmx hby (Nat.zero_le _) ?_
        intro g' cp w7 hown7 hgr7 hat7
        have nb : some b ≠ (Value.slice aA xs[d].ctors[0].args.length acap).ownBlock := fun e => (HROW.out b (zA2.2 e.symm)).2.1 rfl
        have nb2 : some b2 ≠ (Value.slice aA xs[d].ctors[0].args.length acap).ownBlock := fun e => (HROW.out b2 (zA2.2 e.symm)).2.2.1 rfl
        have l7 : w6.heap.size ≤ (w6.alloc (.cells #[.int .i64 x, .int .i64 y] 32)).heap.size := by rw [World.size_alloc]; exact Nat.le_succ _
        have l8 : b < w6.heap.size := zz9 hbl hzE
        have l9 : b2 < w6.heap.size := zz9 hb2l hzE
        have s7 : w7.cell? ⟨b, off + d * 2 + 1, none⟩ = some (.slice (some ⟨b2, off2, none⟩) xs[d].ctors.length cap2) := (World.grownBy.cell_far hgr7 ⟨b, off + d * 2 + 1, none⟩ (zz9 l8 l7) nb).trans ((World.cell?_alloc_lt _ _ _ l8).trans hSE)
        have t7 : w7.cell? ⟨b2, off2 + 1, none⟩ = some (.slice aA xs[d].ctors[0].args.length acap) := (World.grownBy.cell_far hgr7 ⟨b2, off2 + 1, none⟩ (zz9 l9 l7) nb2).trans ((World.cell?_alloc_lt _ _ _ l9).trans hTE)
        have f7 : w7.frozen? ⟨b2, off2 + 1, none⟩ = false := (World.grownBy.frozen_far hgr7 ⟨b2, off2 + 1, none⟩ (zz9 l9 l7) nb2).trans (Eq.trans (World.frozen?_of_block (Below.heap_alloc _ _ _ l9)) hfE)
        have HFin := jj (HFE.out g' cp w7 _ hown7 hgr7 hat7)
        refine hK.out _ _ s7 (fun _ => t7) ?_
        clear hK K
        (try simp only [Act.put, zz4, zz5, zz6])
        refine wU (i := 22) (v := ?_) rfl (Or.inl ⟨by rfl, ?hy22⟩) s7 (fun _ => t7) ?_
        case hy22 => (intro W hSw; (try dsimp only at hSw); go_simp; try with_reducible rfl)
        (try simp only [Act.put, zz4, zz5, zz6])
        refine wU (i := 23) (v := ?_) rfl (Or.inl ⟨by rfl, ?hy23⟩) s7 (fun _ => t7) ?_
        case hy23 => (intro W hSw; (try dsimp only at hSw); go_simp; try with_reducible rfl)
        (try simp only [Act.put, zz4, zz5, zz6])
        refine wR (rs := [24]) (by kernel_rfl) (by simp) ?_
        refine AllReadyB.c rfl (fun K hK => ?_) AllReadyB.n
        go_simp
        refine hK.out _ _ ((World.cell?_setCell_far _ _ _ _ (by show b2 ≠ b; exact fun e => hbb e.symm)).trans s7) (fun h => by cases h) ?_
        clear hK K
        (try simp only [Act.put, zz4, zz5, zz6])
        refine wE (by kernel_rfl) ?_
        clear hS1 hT1 hSE hTE HOE hzE hfE HFE nb nb2 l7 l8 l9 s7 t7 f7 hown7 hgr7 hat7 HH HOWN HROW f3 kc c1 hmx hby
        go_wp2
        go_ret
        exact HFin.out
       ·go_simp
        refine hK.out _ _ ((((Chg.refl [g] wd).alloc _).alloc _).cell hbl hbg |>.trans kc) (fun _ => (((Chg.refl [g] wd).alloc _).alloc _).cell hb2l hb2g |>.trans c1) ?_
        clear hK K
        (try simp only [Act.put, zz4, zz5, zz6])
        refine wR (rs := [15]) (by kernel_rfl) (by simp) ?_
        refine AllReadyB.c rfl (fun K hK => ?_) AllReadyB.n
        go_simp
        go_at_call 73
        refine (num_at ((LitN.new wd [9, -2, 0, -1] (by decide)).alloc _) (by decide) (by decide) (p + 1 + 1) g ((HRD.out.below ((zy2 _ _).alloc (zz8 _) _)).below ((zy2 _ _).alloc (zz8 _) _)) (by omega) hgs).mono ?_
        rintro e w5 ⟨x, rfl, hRw5, hCw5⟩
        have hC5 : Chg [g] wd w5 := (((Chg.refl [g] wd).alloc _).alloc _).trans hCw5
        have hLB : LitN w5 (wd.heap.size + 1) [0, 4, -1, -2] := (LitN.new2 wd _ [0, 4, -1, -2] (by decide)).chg hCw5 (by rw [zy1]; exact hgs1)
        dsimp only
        refine hK.out _ _ (((hC5).cell hbl hbg).trans kc) (fun _ => ((hC5).cell hb2l hb2g).trans c1) ?_
        clear hK K
        (try simp only [Act.put, zz4, zz5, zz6])
        refine wR (rs := [18]) (by kernel_rfl) (by simp) ?_
        refine AllReadyB.c rfl (fun K hK => ?_) AllReadyB.n
        go_simp
        go_at_call 73
        refine (num_at hLB (by decide) (by decide) (p + 1 + 1 + 1) g hRw5 (by omega) hgs1).mono ?_
        rintro e w6 ⟨y, rfl, hRw6, hCw6⟩
        have hC6 : Chg [g] wd w6 := hC5.trans hCw6
        have hSE : w6.cell? ⟨b, off + d * 2 + 1, none⟩ = some (.slice (some ⟨b2, off2, none⟩) xs[d].ctors.length cap2) := ((hC6).cell hbl hbg).trans kc
        have hTE : w6.cell? ⟨b2, off2 + 1, none⟩ = some (.slice aA xs[d].ctors[0].args.length acap) := ((hC6).cell hb2l hb2g).trans c1
        have HOE : Hid (Own w6 0 32 2 TyR xs[d].ctors[0].args (.slice aA xs[d].ctors[0].args.length acap) []) := HOWN.out.mono0 (w' := w6) (fun x cs G (h : TyR wd x cs G) => (h : TyR w6 x cs G)) ((hC6).kept (fun x hx => (HROW.out x hx).2.2.2) (fun x hx => (HROW.out x hx).1))
        have hzE : wd.heap.size ≤ w6.heap.size := (hC6).size
        have hfE : w6.frozen? ⟨b2, off2 + 1, none⟩ = false := (World.frozen?_of_block (a := ⟨b2, off2 + 1, none⟩) ((hC6).block _ hb2l hb2g)).trans f3
        have hFinE := HH.out w6 (p + 1 + 1 + 1 + 1) ⟨x, y⟩
        have HFE := jj (fun g' c' w3' o => hFinE g' c' w3' o hRw6 (hC6) (by omega))
        clear hFinE
        dsimp only
        refine hK.out _ _ hSE (fun _ => hTE) ?_
        clear hK K
        (try simp only [Act.put, zz4, zz5, zz6])
        refine wU (i := 19) (v := ?_) rfl (Or.inl ⟨by rfl, ?hy19⟩) hSE (fun _ => hTE) ?_
        case hy19 => (intro W hSw; (try dsimp only at hSw); go_simp; try with_reducible rfl)
        (try simp only [Act.put, zz4, zz5, zz6])
        refine wR (rs := [20]) (by kernel_rfl) (by simp) ?_
        refine AllReadyB.c rfl (fun K hK => ?_) AllReadyB.n
        go_simp
        refine hK.out _ _ ((World.cell?_alloc_lt _ _ _ (zz9 hbl hzE)).trans hSE) (fun _ => (World.cell?_alloc_lt _ _ _ (zz9 hb2l hzE)).trans hTE) ?_
        clear hK K
        (try simp only [Act.put, zz4, zz5, zz6])
        refine wR (rs := [21]) (by kernel_rfl) (by simp) ?_
        refine AllReadyB.c rfl (fun K hK => ?_) AllReadyB.n
        refine zAZ (P := Try.prog) rfl _ _ 136 rfl j0 _ 16 Try.underlying136 HJ.out HJ0.out HJ1.out HJ2.out rfl (by decide) TyR_len' TyR_mono' (by rfl) HOE.out ⟨x, y⟩ 32 [.int .i64 x, .int .i64 y] [] _ (by rfl) rfl (by simp [Value.oneCell']) ⟨rfl, rfl⟩ (Under.nil _) (fun _ _ h => by cases h) hmx hby (Nat.zero_le _) ?_
        intro g' cp w7 hown7 hgr7 hat7
        have nb : some b ≠ (Value.slice aA xs[d].ctors[0].args.length acap).ownBlock := fun e => (HROW.out b (zA2.2 e.symm)).2.1 rfl
        have nb2 : some b2 ≠ (Value.slice aA xs[d].ctors[0].args.length acap).ownBlock := fun e => (HROW.out b2 (zA2.2 e.symm)).2.2.1 rfl
        have l7 : w6.heap.size ≤ (w6.alloc (.cells #[.int .i64 x, .int .i64 y] 32)).heap.size := by rw [World.size_alloc]; exact Nat.le_succ _
        have l8 : b < w6.heap.size := zz9 hbl hzE
        have l9 : b2 < w6.heap.size := zz9 hb2l hzE
        have s7 : w7.cell? ⟨b, off + d * 2 + 1, none⟩ = some (.slice (some ⟨b2, off2, none⟩) xs[d].ctors.length cap2) := (World.grownBy.cell_far hgr7 ⟨b, off + d * 2 + 1, none⟩ (zz9 l8 l7) nb).trans ((World.cell?_alloc_lt _ _ _ l8).trans hSE)
        have t7 : w7.cell? ⟨b2, off2 + 1, none⟩ = some (.slice aA xs[d].ctors[0].args.length acap) := (World.grownBy.cell_far hgr7 ⟨b2, off2 + 1, none⟩ (zz9 l9 l7) nb2).trans ((World.cell?_alloc_lt _ _ _ l9).trans hTE)
        have f7 : w7.frozen? ⟨b2, off2 + 1, none⟩ = false := (World.grownBy.frozen_far hgr7 ⟨b2, off2 + 1, none⟩ (zz9 l9 l7) nb2).trans (Eq.trans (World.frozen?_of_block (Below.heap_alloc _ _ _ l9)) hfE)
        have HFin := jj (HFE.out g' cp w7 _ hown7 hgr7 hat7)
        refine hK.out _ _ s7 (fun _ => t7) ?_
        clear hK K
        (try simp only [Act.put, zz4, zz5, zz6])
        refine wU (i := 22) (v := ?_) rfl (Or.inl ⟨by rfl, ?hy22⟩) s7 (fun _ => t7) ?_
        case hy22 => (intro W hSw; (try dsimp only at hSw); go_simp; try with_reducible rfl)
        (try simp only [Act.put, zz4, zz5, zz6])
        refine wU (i := 23) (v := ?_) rfl (Or.inl ⟨by rfl, ?hy23⟩) s7 (fun _ => t7) ?_
        case hy23 => (intro W hSw; (try dsimp only at hSw); go_simp; try with_reducible rfl)
        (try simp only [Act.put, zz4, zz5, zz6])
        refine wR (rs := [24]) (by kernel_rfl) (by simp) ?_
        refine AllReadyB.c rfl (fun K hK => ?_) AllReadyB.n
        go_simp
        refine hK.out _ _ ((World.cell?_setCell_far _ _ _ _ (by show b2 ≠ b; exact fun e => hbb e.symm)).trans s7) (fun h => by cases h) ?_
        clear hK K
        (try simp only [Act.put, zz4, zz5, zz6])
        refine wE (by kernel_rfl) ?_
        clear hS1 hT1 hSE hTE HOE hzE hfE HFE nb nb2 l7 l8 l9 s7 t7 f7 hown7 hgr7 hat7 HH HOWN HROW f3 kc c1 hmx hby
        go_wp2
        go_ret
        exact HFin.out
      ·go_simp
       refine hK.out _ _ (((Chg.refl [g] wd).alloc _).cell hbl hbg |>.trans kc) (fun _ => ((Chg.refl [g] wd).alloc _).cell hb2l hb2g |>.trans c1) ?_
       clear hK K
       (try simp only [Act.put, zz4, zz5, zz6])
       refine wR (rs := [14]) (by kernel_rfl) (by simp) ?_
       refine AllReadyB.c rfl (fun K hK => ?_) AllReadyB.n
       go_simp
       refine hK.out _ _ ((((Chg.refl [g] wd).alloc _).alloc _).cell hbl hbg |>.trans kc) (fun _ => (((Chg.refl [g] wd).alloc _).alloc _).cell hb2l hb2g |>.trans c1) ?_
       clear hK K
       (try simp only [Act.put, zz4, zz5, zz6])
       refine wR (rs := [15]) (by kernel_rfl) (by simp) ?_
       refine AllReadyB.c rfl (fun K hK => ?_) AllReadyB.n
       go_simp
       go_at_call 73
       refine (num_at (LitN.new2 wd _ [9, -2, 0, -1] (by decide)) (by decide) (by decide) (p + 1 + 1) g ((HRD.out.below ((zy2 _ _).alloc (zz8 _) _)).below ((zy2 _ _).alloc (zz8 _) _)) (by omega) hgs1).mono ?_
       rintro e w5 ⟨x, rfl, hRw5, hCw5⟩
       have hC5 : Chg [g] wd w5 := (((Chg.refl [g] wd).alloc _).alloc _).trans hCw5
       have hLB : LitN w5 wd.heap.size [0, 4, -1, -2] := ((LitN.new wd [0, 4, -1, -2] (by decide)).alloc _).chg hCw5 (by rw [zy1]; exact hgs)
       dsimp only
       refine hK.out _ _ (((hC5).cell hbl hbg).trans kc) (fun _ => ((hC5).cell hb2l hb2g).trans c1) ?_
       clear hK K
       (try simp only [Act.put, zz4, zz5, zz6])
       refine wR (rs := [18]) (by kernel_rfl) (by simp) ?_
       refine AllReadyB.c rfl (fun K hK => ?_) AllReadyB.n
       go_simp
       go_at_call 73
       refine (num_at hLB (by decide) (by decide) (p + 1 + 1 + 1) g hRw5 (by omega) hgs).mono ?_
       rintro e w6 ⟨y, rfl, hRw6, hCw6⟩
       have hC6 : Chg [g] wd w6 := hC5.trans hCw6
       have hSE : w6.cell? ⟨b, off + d * 2 + 1, none⟩ = some (.slice (some ⟨b2, off2, none⟩) xs[d].ctors.length cap2) := ((hC6).cell hbl hbg).trans kc
       have hTE : w6.cell? ⟨b2, off2 + 1, none⟩ = some (.slice aA xs[d].ctors[0].args.length acap) := ((hC6).cell hb2l hb2g).trans c1
       have HOE : Hid (Own w6 0 32 2 TyR xs[d].ctors[0].args (.slice aA xs[d].ctors[0].args.length acap) []) := HOWN.out.mono0 (w' := w6) (fun x cs G (h : TyR wd x cs G) => (h : TyR w6 x cs G)) ((hC6).kept (fun x hx => (HROW.out x hx).2.2.2) (fun x hx => (HROW.out x hx).1))
       have hzE : wd.heap.size ≤ w6.heap.size := (hC6).size
       have hfE : w6.frozen? ⟨b2, off2 + 1, none⟩ = false := (World.frozen?_of_block (a := ⟨b2, off2 + 1, none⟩) ((hC6).block _ hb2l hb2g)).trans f3
       have hFinE := HH.out w6 (p + 1 + 1 + 1 + 1) ⟨x, y⟩
       have HFE := jj (fun g' c' w3' o => hFinE g' c' w3' o hRw6 (hC6) (by omega))
       clear hFinE
       dsimp only
       refine hK.out _ _ hSE (fun _ => hTE) ?_
       clear hK K
       (try simp only [Act.put, zz4, zz5, zz6])
       refine wU (i := 19) (v := ?_) rfl (Or.inl ⟨by rfl, ?hy19⟩) hSE (fun _ => hTE) ?_
       case hy19 => (intro W hSw; (try dsimp only at hSw); go_simp; try with_reducible rfl)
       (try simp only [Act.put, zz4, zz5, zz6])
       refine wR (rs := [20]) (by kernel_rfl) (by simp) ?_
       refine AllReadyB.c rfl (fun K hK => ?_) AllReadyB.n
       go_simp
       refine hK.out _ _ ((World.cell?_alloc_lt _ _ _ (zz9 hbl hzE)).trans hSE) (fun _ => (World.cell?_alloc_lt _ _ _ (zz9 hb2l hzE)).trans hTE) ?_
       clear hK K
       (try simp only [Act.put, zz4, zz5, zz6])
       refine wR (rs := [21]) (by kernel_rfl) (by simp) ?_
       refine AllReadyB.c rfl (fun K hK => ?_) AllReadyB.n
       refine zAZ (P := Try.prog) rfl _ _ 136 rfl j0 _ 16 Try.underlying136 HJ.out HJ0.out HJ1.out HJ2.out rfl (by decide) TyR_len' TyR_mono' (by rfl) HOE.out ⟨x, y⟩ 32 [.int .i64 x, .int .i64 y] [] _ (by rfl) rfl (by simp [Value.oneCell']) ⟨rfl, rfl⟩ (Under.nil _) (fun _ _ h => by cases h) hmx hby (Nat.zero_le _) ?_
       intro g' cp w7 hown7 hgr7 hat7
       have nb : some b ≠ (Value.slice aA xs[d].ctors[0].args.length acap).ownBlock := fun e => (HROW.out b (zA2.2 e.symm)).2.1 rfl
       have nb2 : some b2 ≠ (Value.slice aA xs[d].ctors[0].args.length acap).ownBlock := fun e => (HROW.out b2 (zA2.2 e.symm)).2.2.1 rfl
       have l7 : w6.heap.size ≤ (w6.alloc (.cells #[.int .i64 x, .int .i64 y] 32)).heap.size := by rw [World.size_alloc]; exact Nat.le_succ _
       have l8 : b < w6.heap.size := zz9 hbl hzE
       have l9 : b2 < w6.heap.size := zz9 hb2l hzE
       have s7 : w7.cell? ⟨b, off + d * 2 + 1, none⟩ = some (.slice (some ⟨b2, off2, none⟩) xs[d].ctors.length cap2) := (World.grownBy.cell_far hgr7 ⟨b, off + d * 2 + 1, none⟩ (zz9 l8 l7) nb).trans ((World.cell?_alloc_lt _ _ _ l8).trans hSE)
       have t7 : w7.cell? ⟨b2, off2 + 1, none⟩ = some (.slice aA xs[d].ctors[0].args.length acap) := (World.grownBy.cell_far hgr7 ⟨b2, off2 + 1, none⟩ (zz9 l9 l7) nb2).trans ((World.cell?_alloc_lt _ _ _ l9).trans hTE)
       have f7 : w7.frozen? ⟨b2, off2 + 1, none⟩ = false := (World.grownBy.frozen_far hgr7 ⟨b2, off2 + 1, none⟩ (zz9 l9 l7) nb2).trans (Eq.trans (World.frozen?_of_block (Below.heap_alloc _ _ _ l9)) hfE)
       have HFin := jj (HFE.out g' cp w7 _ hown7 hgr7 hat7)
       refine hK.out _ _ s7 (fun _ => t7) ?_
       clear hK K
       (try simp only [Act.put, zz4, zz5, zz6])
       refine wU (i := 22) (v := ?_) rfl (Or.inl ⟨by rfl, ?hy22⟩) s7 (fun _ => t7) ?_
       case hy22 => (intro W hSw; (try dsimp only at hSw); go_simp; try with_reducible rfl)
       (try simp only [Act.put, zz4, zz5, zz6])
       refine wU (i := 23) (v := ?_) rfl (Or.inl ⟨by rfl, ?hy23⟩) s7 (fun _ => t7) ?_
       case hy23 => (intro W hSw; (try dsimp only at hSw); go_simp; try with_reducible rfl)
       (try simp only [Act.put, zz4, zz5, zz6])
       refine wR (rs := [24]) (by kernel_rfl) (by simp) ?_
       refine AllReadyB.c rfl (fun K hK => ?_) AllReadyB.n
       go_simp
       refine hK.out _ _ ((World.cell?_setCell_far _ _ _ _ (by show b2 ≠ b; exact fun e => hbb e.symm)).trans s7) (fun h => by cases h) ?_
       clear hK K
       (try simp only [Act.put, zz4, zz5, zz6])
       refine wE (by kernel_rfl) ?_
       clear hS1 hT1 hSE hTE HOE hzE hfE HFE nb nb2 l7 l8 l9 s7 t7 f7 hown7 hgr7 hat7 HH HOWN HROW f3 kc c1 hmx hby
       go_wp2
       go_ret
       exact HFin.out
     |false =>
      cases c4q : ((r : Int) == 4) with
      |true =>
       have hCd := HC3.out.drew
       clear HC3
       obtain ⟨b2, off2, cap2, aA, acap, kc, hbb, hbg, hb2g, hbl, hb2l, hz2, c0, c1, c2, hown, hrow, hal, H2, H4, H3⟩ := hCd.ctor (p := p) h0 HSM.out hd hk0
       have HH := jj H4
       have hR3 := jj hCd.rd
       have f3 := hz2 (off2 + 2)
       clear c0 c1 hown hrow hal H2 H4 H3 hCd hz2
       go_wp2_with fail
       refine zA7 (S := fun w' => w'.cell? ⟨b, off + d * 2 + 1, none⟩ = some (.slice (some ⟨b2, off2, none⟩) xs[d].ctors.length cap2)) (T := fun _ => True) (d := 10) (by kernel_rfl) ?_
       generalize w3.drew = wd at *
       have hS1 : wd.cell? ⟨b, off + d * 2 + 1, none⟩ = some (.slice (some ⟨b2, off2, none⟩) xs[d].ctors.length cap2) := kc
       have hT1 : True := trivial
       refine wU (i := 0) (v := ?_) rfl (Or.inl ⟨by rfl, ?hy0⟩) hS1 (fun _ => hT1) ?_
       case hy0 => (intro W hSw; (try dsimp only at hSw); go_simp; try with_reducible rfl)
       (try simp only [Act.put, zz4, zz5, zz6])
       refine wU (i := 1) (v := ?_) rfl (Or.inl ⟨by rfl, ?hy1⟩) hS1 (fun _ => hT1) ?_
       case hy1 => (intro W hSw; (try dsimp only at hSw); go_simp; try with_reducible rfl)
       (try simp only [Act.put, zz4, zz5, zz6])
       refine wU (i := 2) (v := ?_) rfl (Or.inl ⟨by rfl, ?hy2⟩) hS1 (fun _ => hT1) ?_
       case hy2 => (intro W hSw; (try dsimp only at hSw); go_simp; try with_reducible rfl)
       (try simp only [Act.put, zz4, zz5, zz6])
       refine wU (i := 3) (v := ?_) rfl (Or.inl ⟨by rfl, ?hy3⟩) hS1 (fun _ => hT1) ?_
       case hy3 => (intro W hSw; (try dsimp only at hSw); go_simp; try with_reducible rfl)
       (try simp only [Act.put, zz4, zz5, zz6])
       refine wU (i := 4) (v := ?_) rfl (Or.inl ⟨by rfl, ?hy4⟩) hS1 (fun _ => hT1) ?_
       case hy4 => (intro W hSw; (try dsimp only at hSw); go_simp; try with_reducible rfl)
       (try simp only [Act.put, zz4, zz5, zz6])
       refine wU (i := 5) (v := ?_) rfl (Or.inl ⟨by rfl, ?hy5⟩) hS1 (fun _ => hT1) ?_
       case hy5 => (intro W hSw; (try dsimp only at hSw); go_simp; try with_reducible rfl)
       (try simp only [Act.put, zz4, zz5, zz6])
       refine wR (rs := [6]) (by kernel_rfl) (by simp) ?_
       refine AllReadyB.c rfl (fun K hK => ?_) AllReadyB.n
       go_simp
       refine hK.out _ _ ((World.cell?_alloc_lt _ _ _ hbl).trans kc) (fun _ => trivial) ?_
       clear hK K
       (try simp only [Act.put, zz4, zz5, zz6])
       refine wR (rs := [7]) (by kernel_rfl) (by simp) ?_
       refine AllReadyB.c rfl (fun K hK => ?_) AllReadyB.n
       go_simp
       go_at_call 73
       refine (num_lit [4, -1, 1] (by decide) (by decide) (p + 1 + 1) g wd hR3.out (by omega)).mono ?_
       rintro e w4 ⟨s, hs, rfl, hR4, hC4⟩
       have hC5 := hC4
       have hS4 : w4.cell? ⟨b, off + d * 2 + 1, none⟩ = some (.slice (some ⟨b2, off2, none⟩) xs[d].ctors.length cap2) := (hC5.cell hbl hbg).trans kc
       have x4 : w4.cell? ⟨b2, off2 + 2, none⟩ = some (.int .i64 xs[d].ctors[0].idx) := (hC5.cell hb2l hb2g).trans c2
       have f4 : w4.frozen? ⟨b2, off2 + 2, none⟩ = false := (World.frozen?_of_block (a := ⟨b2, off2 + 2, none⟩) (hC5.block _ hb2l hb2g)).trans f3
       have HFin := jj (HH.out w4 _ s hR4 hC5 (by omega))
       dsimp only
       refine hK.out _ _ hS4 (fun _ => trivial) ?_
       clear hK K
       (try simp only [Act.put, zz4, zz5, zz6])
       refine wU (i := 8) (v := ?_) rfl (Or.inl ⟨by rfl, ?hy8⟩) hS4 (fun _ => hT1) ?_
       case hy8 => (intro W hSw; (try dsimp only at hSw); go_simp; try with_reducible rfl)
       (try simp only [Act.put, zz4, zz5, zz6])
       refine wU (i := 9) (v := ?_) rfl (Or.inl ⟨by rfl, ?hy9⟩) hS4 (fun _ => hT1) ?_
       case hy9 => (intro W hSw; (try dsimp only at hSw); go_simp; try with_reducible rfl)
       (try simp only [Act.put, zz4, zz5, zz6])
       refine wR (rs := [10]) (by kernel_rfl) (by simp) ?_
       refine AllReadyB.c rfl (fun K hK => ?_) AllReadyB.n
       go_simp
       refine hK.out _ _ ((World.cell?_setCell_far _ _ _ _ (by show b2 ≠ b; exact fun e => hbb e.symm)).trans hS4) (fun _ => trivial) ?_
       clear hK K
       (try simp only [Act.put, zz4, zz5, zz6])
       refine wE (by kernel_rfl) ?_
       clear hS1 hT1 hS4 x4 f4 hC5 hC4 hR4 HH hR3 f3 kc c2
       go_wp2
       go_ret
       exact HFin.out
      |false =>
       cases c5q : ((r : Int) == 5) with
       |true =>
        obtain ⟨kA, kcap, F2, n0, k0, z0, hb, hbl, hk1, hk2, hdx, hF2, hname, hctors⟩ := HC3.out.data (p := p) h0 HSM.out hd
        have HDX := jj hdx
        have HF2 := jj hF2
        have hbs : w.heap.size ≤ w3.heap.size := HC3.out.chg.size
        clear z0 hdx hF2 hname hctors
        go_wp2_with (at_builtin; refine Halt.mk ?_)
        refine Halt.of (zA3 (P := Try.prog) rfl _ _ 30 rfl m0 _ 40 Try.underlying30 HM.out HM0.out HM1.out HM2.out rfl (by decide) DtO_len DtO_mono (by rfl) HC3.out.own xs[d] 97 [.string xs[d].name, .slice kA xs[d].ctors.length kcap] F2 _ (by rfl) rfl (by simp [Value.oneCell']) HDX.out (fun x hx => (HF2.out x hx).2.2) (fun x hx hG => (HF2.out x hG).1 (by rw [zA6, zy1] at hx; exact hx)) (by unfold maxLen; omega) (by omega) hbs ?_)
        intro g' cp w7 hown7 hgr7 hat7
        have HFin := jj (HC3.out.twice (p := p) h0 HSM.out hd (fun x hx => (HF2.out x hx).2.1) rfl hown7 hgr7 (by omega))
        clear hown7 hgr7 hat7 n0 k0 hk1 hk2 HDX HF2 HC3
        go_wp2
        go_ret
        exact HFin.out
       |false =>
        have HFin := jj (HC3.out.done (p := p) h0 HSM.out (by omega))
        clear HC3
        go_wp2
        go_ret
        exact HFin.out
set_option maxHeartbeats 8000000 in
theorem l3Name_node (a : P) (ih : ∀ k ∈ a.ks, NameP k) (w : World) (p g : Nat) (n : Int) (cs : List Value) (G : List Nat) (hr : Rd w g p) (hp : p + 2 * nodesP a ≤ 900000) (hn0 : 0 ≤ n) (hn1 : n + 2 * (nodesP a : Int) ≤ 1000000) (hv : PR w a cs G) (hG : Under w.heap.size G) (hGg : ∀ b ∈ G, b ≠ g) (h5 : decide (n > 5) = false) (q5 : (a.op == 5) = false) (q3 : (a.op == 3) = false) (q1 : (a.op == 1) = false) :
  Calls Try.prog 98 #[.pointer (some ⟨g, 0, none⟩), .agg cs.toArray, .int .i64 n] w (DrewPN (2 * nodesP a) p (2 * nodesP a) g (n + 2 * (nodesP a : Int)) G w) := by
 obtain ⟨kv, rfl, ha⟩ := (zA4 _ _ _).1 hv
 obtain ⟨A4, cap4, rfl, hc3, hc4⟩ := ha.form
 have IH := jj ih
 have hgl := hr.lt
 have hnp : 1 ≤ nodesP a := by unfold nodesP; omega
 have hka := zAK a (zz8 a.ks.length)
 have hkl : a.ks.length ≤ 1000000 := by
  have h1 := P.sizes_eq a.ks
  have h2 := zA5 a
  omega
 have hB0 : Below w.heap.size w ((w.alloc (.cells #[.int .i64 a.op, .int .i64 a.ct, .int .i64 a.n, .int .i64 a.m, .int .i64 a.va, .slice A4 a.ks.length cap4] 25)).alloc (.cells #[.int .i64 0, .int .i64 0, .int .i64 0, .int .i64 0, .int .i64 0, .slice none 0 0] 25)) := ((zy2 _ _).alloc (zz8 _) _).alloc (by simp) _
 have KP : Hid (Blk ((w.alloc (.cells #[.int .i64 a.op, .int .i64 a.ct, .int .i64 a.n, .int .i64 a.m, .int .i64 a.va, .slice A4 a.ks.length cap4] 25)).alloc (.cells #[.int .i64 0, .int .i64 0, .int .i64 0, .int .i64 0, .int .i64 0, .slice none 0 0] 25)) w.heap.size 25 #[.int .i64 a.op, .int .i64 a.ct, .int .i64 a.n, .int .i64 a.m, .int .i64 a.va, .slice A4 a.ks.length cap4]) := (Blk.new w _ _).same (Below.heap_alloc _ _ _ (by simp))
 have KR : Hid (Blk ((w.alloc (.cells #[.int .i64 a.op, .int .i64 a.ct, .int .i64 a.n, .int .i64 a.m, .int .i64 a.va, .slice A4 a.ks.length cap4] 25)).alloc (.cells #[.int .i64 0, .int .i64 0, .int .i64 0, .int .i64 0, .int .i64 0, .slice none 0 0] 25)) (w.heap.size + 1) 25 #[.int .i64 0, .int .i64 0, .int .i64 0, .int .i64 0, .int .i64 0, .slice none 0 0]) := zA8 w _ 25 _
 have HR := jj (hr.below hB0)
 have hz2 : ((w.alloc (.cells #[.int .i64 a.op, .int .i64 a.ct, .int .i64 a.n, .int .i64 a.m, .int .i64 a.va, .slice A4 a.ks.length cap4] 25)).alloc (.cells #[.int .i64 0, .int .i64 0, .int .i64 0, .int .i64 0, .int .i64 0, .slice none 0 0] 25)).heap.size = w.heap.size + 2 := by simp
 have HC0 : Hid (Chg [g] w ((w.alloc (.cells #[.int .i64 a.op, .int .i64 a.ct, .int .i64 a.n, .int .i64 a.m, .int .i64 a.va, .slice A4 a.ks.length cap4] 25)).alloc (.cells #[.int .i64 0, .int .i64 0, .int .i64 0, .int .i64 0, .int .i64 0, .slice none 0 0] 25))) := .of_below hB0
 have HV0 := jj (hv.below hB0 hG)
 have HUN : Hid (∀ b ∈ G, b < ((w.alloc (.cells #[.int .i64 a.op, .int .i64 a.ct, .int .i64 a.n, .int .i64 a.m, .int .i64 a.va, .slice A4 a.ks.length cap4] 25)).alloc (.cells #[.int .i64 0, .int .i64 0, .int .i64 0, .int .i64 0, .int .i64 0, .slice none 0 0] 25)).heap.size ∧ (b ∈ G ∨ w.heap.size ≤ b) ∧ b ≠ w.heap.size + 1) := fun b hb => ⟨by have := hG b hb; omega, .inl hb, by have := hG b hb; omega⟩
 have HA := jj ha
 have HV := jj hv
 have HRw := jj hr
 have HG := jj hG
 have HGg := jj hGg
 have HG1 : Hid (∀ b, g < b → b ∉ [g]) := fun b hb h => by rw [zy1] at h; omega
 clear ih hr hv ha hG hGg hB0
 go_enter Try.func98, Try.ntmps98
 go_wp2_with fail
 obtain ⟨w2, hw2⟩ : ∃ X, X = ((w.alloc (.cells #[.int .i64 a.op, .int .i64 a.ct, .int .i64 a.n, .int .i64 a.m, .int .i64 a.va, .slice A4 a.ks.length cap4] 25)).alloc (.cells #[.int .i64 0, .int .i64 0, .int .i64 0, .int .i64 0, .int .i64 0, .slice none 0 0] 25)) := ⟨_, rfl⟩
 rw [← hw2] at KP KR HR hz2 HC0 HV0 HUN ⊢
 clear hw2
 have z0 : w2.cell? ⟨w.heap.size, 0, none⟩ = some (.int .i64 a.op) := (KP.out.cell 0).trans (by simp)
 have z1 : w2.cell? ⟨w.heap.size, 1, none⟩ = some (.int .i64 a.ct) := (KP.out.cell 1).trans (by simp)
 have z2 : w2.cell? ⟨w.heap.size, 2, none⟩ = some (.int .i64 a.n) := (KP.out.cell 2).trans (by simp)
 have z3 : w2.cell? ⟨w.heap.size, 3, none⟩ = some (.int .i64 a.m) := (KP.out.cell 3).trans (by simp)
 have z4 : w2.cell? ⟨w.heap.size, 4, none⟩ = some (.int .i64 a.va) := (KP.out.cell 4).trans (by simp)
 have z5 : w2.cell? ⟨w.heap.size, 5, none⟩ = some (.slice A4 a.ks.length cap4) := (KP.out.cell 5).trans (by simp)
 have zlt := KP.out.lt
 obtain ⟨w3, hw3⟩ : ∃ X, X = w2 := ⟨_, rfl⟩
 have hz3 : w3.heap.size = w.heap.size + 2 := by rw [hw3]; exact hz2
 rw [← hw3] at KP KR HC0 HR ⊢
 have KP3 := jj KP.out
 have KR3 := jj KR.out
 have HC3 := jj HC0.out
 have HR3 := jj HR.out
 obtain ⟨p3, hp3⟩ : ∃ q, q = p := ⟨_, rfl⟩
 rw [← hp3] at HR3
 clear hw3 z0 z1 z2 z3 z4 z5 zlt KP KR HC0 HR HV0 HUN
 have KP3 := jj KP3.out
 have z0 : w3.cell? ⟨w.heap.size, 0, none⟩ = some (.int .i64 a.op) := (KP3.out.cell 0).trans (by simp)
 have z1 : w3.cell? ⟨w.heap.size, 1, none⟩ = some (.int .i64 a.ct) := (KP3.out.cell 1).trans (by simp)
 have z2 : w3.cell? ⟨w.heap.size, 2, none⟩ = some (.int .i64 a.n) := (KP3.out.cell 2).trans (by simp)
 have z3 : w3.cell? ⟨w.heap.size, 3, none⟩ = some (.int .i64 a.m) := (KP3.out.cell 3).trans (by simp)
 have z4 : w3.cell? ⟨w.heap.size, 4, none⟩ = some (.int .i64 a.va) := (KP3.out.cell 4).trans (by simp)
 have z5 : w3.cell? ⟨w.heap.size, 5, none⟩ = some (.slice A4 a.ks.length cap4) := (KP3.out.cell 5).trans (by simp)
 have zlt := KP3.out.lt
 go_wp2
 obtain ⟨w9, hw9⟩ : ∃ X, X = (w3.alloc (.cells #[.int .i64 a.op, .int .i64 a.ct, .int .i64 a.n, .int .i64 a.m, .int .i64 a.va, .slice none 0 0] 25)) := ⟨_, rfl⟩
 obtain ⟨D, hD⟩ : ∃ D, D = w.heap.size + 2 := ⟨_, rfl⟩
 have hDw : D = w3.heap.size := hD.trans hz3.symm
 have KN9 : Hid (Blk w9 D 25 #[.int .i64 a.op, .int .i64 a.ct, .int .i64 a.n, .int .i64 a.m, .int .i64 a.va, .slice none 0 0]) := by rw [hw9, hDw]; exact Blk.new w3 25 _
 have hk9 : ∀ b, b < D → w9.heap[b]? = w3.heap[b]? := fun b hb => by rw [hw9, Below.heap_alloc _ _ _ (by omega)]
 have hs9 : w9.heap.size = D + 1 := by rw [hw9, hDw]; simp
 have HC9 : Hid (Chg [g] w w9) := by rw [hw9]; exact HC3.out.alloc _
 have hD2 : w.heap.size + 2 ≤ D := by omega
 rw [← hD]
 rw [← hw9]
 clear hDw
 clear hw9
 have KP9 := jj (KP3.out.same (hk9 _ (by omega)))
 have KR9 := jj (KR3.out.same (hk9 _ (by omega)))
 have HR9 := jj (HR3.out.keep (w' := w9) (fun b hb => hk9 b (by omega)))
 clear z0 z1 z2 z3 z4 z5 zlt
 clear hk9 KP3 KR3 HC3 HR3 hD
 obtain ⟨i0, hi, hz0, hz1, hz2'⟩ := info_parts info_PE
 have HI := jj hi
 have HZ0 := jj hz0
 have HZ1 := jj hz1
 have HZ2x := jj hz2'
 clear hi hz0 hz1 hz2'
 go_loopw [9, 10] (fun mv iv wr => ∃ q : Nat, ∃ m : Int, ∃ kv : Value, ∃ Fk : List Nat, ∃ vs : List P, ∃ pq : Nat, q ≤ a.ks.length ∧ iv = .int .i64 q ∧ mv = .int .i64 m ∧ Hid (vs.length = q) ∧ Hid (P.sizes vs ≤ 2 * kidSum a q) ∧ Hid (Blk wr D 25 #[.int .i64 a.op, .int .i64 a.ct, .int .i64 a.n, .int .i64 a.m, .int .i64 a.va, kv]) ∧ Hid (Own wr (D + 1) 25 6 PR vs kv Fk) ∧ Hid (∀ b ∈ Fk, b ∈ G ∨ D + 1 ≤ b) ∧ Hid (Chg [D, g] w9 wr) ∧ Hid (Chg [g] w wr) ∧ w9.heap.size ≤ wr.heap.size ∧ Hid (Rd wr g pq) ∧ pq ≤ p3 + 2 * kidSum a q ∧ 0 ≤ m ∧ m ≤ n + 2 * ((kidSum a q : Nat) : Int)) (fun _ iv _ => a.ks.length - (intOf iv).toNat)
 case atStart => exact ⟨0, n, _, [], [], p3, Nat.zero_le _, rfl, rfl, rfl, Nat.zero_le _, KN9, Own.nil _ _ _ _ _, (fun b hb => by cases hb), Chg.refl _ _, HC9, zz8 _, HR9, by omega, hn0, by omega⟩
 case round =>
  clear HC9 KN9 HR9
  obtain ⟨q, m, kv, Fk, vs, pq, hql, rfl, rfl, HVL, HVS, KD, HO, HFh, HC, HCw, hws9, HRq, hpq, hm0, hm1⟩ := hrel
  obtain ⟨kA, kcap, hkv, hkc1, hkc2⟩ := HO.out.form
  subst hkv
  have hDg : ∀ b, g < b → b ≠ D → b ∉ [D, g] := fun b h1 h2 h => by
   rcases List.mem_cons.1 h with h3 | h3
   ·exact h2 h3
   ·rw [zy1] at h3; omega
  have KPr := jj (KP9.out.same (HC.out.block _ KP9.out.lt (hDg _ hgl (by omega))))
  have KRr := jj (KR9.out.same (HC.out.block _ KR9.out.lt (hDg _ (by omega) (by omega))))
  have HFk : Hid (∀ b ∈ Fk, b ≠ D ∧ b ≠ g) := fun b hb => by
   rcases HFh.out b hb with h | h
   ·exact ⟨by have := HG.out b h; omega, HGg.out b h⟩
   ·exact ⟨by omega, by omega⟩
  have HAr : Hid (Arr wr (PR wr) a.ks (.slice A4 a.ks.length cap4) G) := ArrP.mono HA.out (HCw.out.kept HG.out (fun b hb h => by rw [zy1] at h; exact HGg.out b hb h))
  have HGr : Hid (Under wr.heap.size G) := HG.out.mono HCw.out.size
  have klt := KD.out.lt
  clear hDg
  have z0 : wr.cell? ⟨w.heap.size, 0, none⟩ = some (.int .i64 a.op) := (KPr.out.cell 0).trans (by simp)
  have z1 : wr.cell? ⟨w.heap.size, 1, none⟩ = some (.int .i64 a.ct) := (KPr.out.cell 1).trans (by simp)
  have z2 : wr.cell? ⟨w.heap.size, 2, none⟩ = some (.int .i64 a.n) := (KPr.out.cell 2).trans (by simp)
  have z3 : wr.cell? ⟨w.heap.size, 3, none⟩ = some (.int .i64 a.m) := (KPr.out.cell 3).trans (by simp)
  have z4 : wr.cell? ⟨w.heap.size, 4, none⟩ = some (.int .i64 a.va) := (KPr.out.cell 4).trans (by simp)
  have z5 : wr.cell? ⟨w.heap.size, 5, none⟩ = some (.slice A4 a.ks.length cap4) := (KPr.out.cell 5).trans (by simp)
  have zlt := KPr.out.lt
  by_cases hil : q < a.ks.length
  ·have g1 : (0 : Int) ≤ (q : Int) := by omega
   have g2 : (q : Int) < (a.ks.length : Int) := by omega
   obtain ⟨b4, off4, rfl⟩ := HAr.out.ptr (by omega)
   obtain ⟨A7, cap7, G7, hb7, c0, c1, c2, c3, c4, c5, HV7, HG7, hsub, -, -⟩ := ArrP.at HAr.out HGr.out (zy2 _ _) q hil
   have HSUB := jj hsub
   have hks := zAQ a q hil
   have hkle := kidSum_le a (q + 1)
   have hvl := HVL.out
   have hvl3 : vs.length ≤ 1000000 := by omega
   clear hvl hsub
   have HME : Hid (a.ks[q] ∈ a.ks) := List.getElem_mem hil
   have HCALL := jj (IH.out a.ks[q] HME.out wr pq g m _ G7 HRq.out (by omega) hm0 (by omega) HV7.out HG7.out (fun b hb => HGg.out b (HSUB.out b hb)))
   go_wp2_with fail
   refine HCALL.out.mono ?_
   rintro e wA ⟨vA, csA, FA, qA, mA, rfl, hpA, hfA, hnA, hRA, hqA, hCA, hmA0, hmA1⟩
   obtain ⟨kvA, rfl, haA⟩ := (zA4 _ _ _).1 hpA
   obtain ⟨A8, cap8, rfl, -, -⟩ := haA.form
   have hmx : vs.length + 1 ≤ maxLen := by unfold maxLen; omega
   have hby : (vs.length + 1) * 64 ≤ 140737488355328 := by omega
   have hb9 : Below wA.heap.size wA (wA.alloc (.cells #[.int .i64 vA.op, .int .i64 vA.ct, .int .i64 vA.n, .int .i64 vA.m, .int .i64 vA.va, .slice A8 vA.ks.length cap8] 25)) := (zy2 _ _).alloc (zz8 _) _
   have HBu : Hid (Chg [g] wr (wA.alloc (.cells #[.int .i64 vA.op, .int .i64 vA.ct, .int .i64 vA.n, .int .i64 vA.m, .int .i64 vA.va, .slice A8 vA.ks.length cap8] 25))) := hCA.alloc _
   have HPb := jj (hpA.below hb9 (fun b hb => (hfA b hb).1))
   have hDg1 : D ∉ [g] := HG1.out _ (by omega)
   have KDA := hCA.block _ klt hDg1
   have zT : wA.cell? ⟨D, 5, none⟩ = some (.slice kA vs.length kcap) := ((KD.out.same KDA).cell 5).trans (by simp)
   have hkA := (KD.out.same KDA).lt
   have zfT : wA.frozen? ⟨D, 5, none⟩ = false := (KD.out.same KDA).frozen 5
   have HFA : Hid (∀ b ∈ FA, b < wA.heap.size ∧ (b ∈ G ∨ wr.heap.size ≤ b)) := fun b hb => ⟨(hfA b hb).1, by rcases (hfA b hb).2 with h | h; exact .inl (HSUB.out b h); exact .inr h⟩
   have HFA2 : Hid (∀ b ∈ FA, b ≠ D ∧ b ≠ g) := fun b hb => by
    rcases (HFA.out b hb).2 with h | h
    ·exact ⟨by have := HG.out b h; omega, HGg.out b h⟩
    ·exact ⟨by omega, by omega⟩
   have HFA3 : Hid (∀ x ∈ rowOf (.slice kA vs.length kcap), x ∉ FA) := fun x hx h => by
    have h1 := HO.out.row x hx
    rcases (HFA.out x h).2 with h2 | h2
    ·have := HG.out x h2; omega
    ·omega
   have HRA := jj (hRA.below hb9)
   have HNA := jj hnA
   have HOb : Hid (Own (wA.alloc (.cells #[.int .i64 vA.op, .int .i64 vA.ct, .int .i64 vA.n, .int .i64 vA.m, .int .i64 vA.va, .slice A8 vA.ks.length cap8] 25)) (D + 1) 25 6 PR vs (.slice kA vs.length kcap) Fk) := HO.out.chg2 PR_mono' HBu.out (fun b hb => by rw [zy1] at hb; omega) (fun b hb h => by rw [zy1] at h; exact (HFk.out b hb).2 h)
   have hsz : D + 1 ≤ (wA.alloc (.cells #[.int .i64 vA.op, .int .i64 vA.ct, .int .i64 vA.n, .int .i64 vA.m, .int .i64 vA.va, .slice A8 vA.ks.length cap8] 25)).heap.size := by have := HBu.out.size; omega
   clear z0 z1 z2 z3 z4 z5 zlt c0 c1 c2 c3 c4 c5 hpA hfA hnA hRA haA KDA HCALL hb7
   go_wp2_with (at_builtin; refine Halt.mk ?_)
   refine Halt.of (zA3 (P := Try.prog) rfl _ _ 23 rfl i0 _ 64 Try.underlying23 HI.out HZ0.out HZ1.out HZ2x.out rfl (by decide) PR_len' PR_mono' (by rfl) HOb.out vA 25 [.int .i64 vA.op, .int .i64 vA.ct, .int .i64 vA.n, .int .i64 vA.m, .int .i64 vA.va, .slice A8 vA.ks.length cap8] FA _ (by rfl) (by simp) (by simp [Value.oneCell']) HPb.out (fun b hb => by rw [World.size_alloc]; have := (HFA.out b hb).1; omega) HFA3.out hmx hby hsz ?_)
   intro gz cp w7 hown7 hgr7 hat7
   have hrow := HOb.out.row
   have n7 : some D ≠ (Value.ownBlock (.slice kA vs.length kcap)) := fun e => by have := (hrow D (zA2.2 e.symm)).1; omega
   have hl7 : D < ((wA.alloc (.cells #[.int .i64 vA.op, .int .i64 vA.ct, .int .i64 vA.n, .int .i64 vA.m, .int .i64 vA.va, .slice A8 vA.ks.length cap8] 25)).alloc (.cells [.int .i64 vA.op, .int .i64 vA.ct, .int .i64 vA.n, .int .i64 vA.m, .int .i64 vA.va, .slice A8 vA.ks.length cap8].toArray 25)).heap.size := by rw [World.size_alloc, World.size_alloc]; omega
   have z71 : w7.cell? ⟨D, 5, none⟩ = some (.slice kA vs.length kcap) := (World.grownBy.cell_far hgr7 ⟨D, 5, none⟩ hl7 n7).trans ((World.cell?_alloc_lt _ _ _ (by rw [World.size_alloc]; show D < _; omega)).trans ((World.cell?_alloc_lt _ _ _ (show D < wA.heap.size from hkA)).trans zT))
   have zf71 : w7.frozen? ⟨D, 5, none⟩ = false := (World.grownBy.frozen_far hgr7 ⟨D, 5, none⟩ hl7 n7).trans (Eq.trans (World.frozen?_of_block (Below.heap_alloc _ _ _ (by rw [World.size_alloc]; show D < _; omega))) (Eq.trans (World.frozen?_of_block (Below.heap_alloc _ _ _ (show D < wA.heap.size from hkA))) zfT))
   obtain ⟨r1, r2, r3, r4, r5, r6, r7⟩ := kid_round4 (w := w) 5 PR_mono' hs9 (Nat.lt_succ_self D) hgl (by omega) KD.out HO.out HFk.out HC.out HCw.out HBu.out HFA2.out hown7 hgr7 HRA.out
   have R1 := jj r1
   have R2 := jj r2
   have R4 := jj r4
   have R5 := jj r5
   have R7 := jj r7
   have R3 : Hid (∀ b ∈ Fk ++ FA, b ∈ G ∨ D + 1 ≤ b) := fun b hb => by
    rcases List.mem_append.1 hb with h | h
    ·exact HFh.out b h
    ·rcases (HFA.out b h).2 with h2 | h2
     ·exact .inl h2
     ·exact .inr (by omega)
   have HV2 : Hid ((vs ++ [vA]).length = q + 1) := by have := HVL.out; unfold Hid; rw [List.length_append]; simp only [List.length_cons, List.length_nil]; omega
   have HS2 : Hid (P.sizes (vs ++ [vA]) ≤ 2 * kidSum a (q + 1)) := by unfold Hid; rw [hks]; exact psizes_snoc2 vs vA _ _ HVS.out HNA.out
   have HKS := jj hks
   have h7D : D < w7.heap.size := zz9 hl7 hgr7.size
   clear r1 r2 r3 r4 r5 r7 hown7 hgr7 hat7 hrow n7 hl7 zT zfT hks
   go_wp2
   go_roundw
   case rel => exact ⟨q + 1, mA, _, _, vs ++ [vA], qA, hil, by go_num, rfl, HV2, HS2, R1, (by rw [show (vs ++ [vA]).length = vs.length + 1 from by rw [List.length_append]; rfl] at *; exact R2), R3, R4, R5, r6, R7, by have := HKS.out; omega, hmA0, by have := HKS.out; push_cast [this]; omega⟩
   case measure => (simp [intOf] <;> omega)
  ·obtain ⟨FF, hf1, hf3⟩ := kid_done4 (D := D) (g := g) HO.out HFk.out (Nat.lt_succ_self D) (by omega)
   have HF1 := jj hf1
   have HF3 : Hid (∀ b ∈ FF, b < wr.heap.size ∧ (b ∈ G ∨ w.heap.size ≤ b) ∧ b ≠ w.heap.size + 1) := fun b hb => by
    have h := hf3 b hb
    rcases h.2.2.2 with h2 | h2
    ·rcases HFh.out b h2 with h3 | h3
     ·exact ⟨h.2.2.1, .inl h3, by have := HG.out b h3; omega⟩
     ·exact ⟨h.2.2.1, .inr (by omega), by omega⟩
    ·exact ⟨h.2.2.1, .inr (by omega), by omega⟩
   have HFg : Hid (∀ b ∈ FF, b ∉ [g]) := fun b hb h => by rw [zy1] at h; exact (hf3 b hb).2.1 h
   have hq : q = a.ks.length := by omega
   have HSZ : Hid (nodesP ⟨a.op, a.ct, a.n, a.m, a.va, vs⟩ ≤ 2 * nodesP a - 1) := by have h1 := HVS.out; rw [hq] at h1; unfold Hid; rw [zA5]; simp only; omega
   have HRP : Hid (PR wr ⟨a.op, a.ct, a.n, a.m, a.va, vs⟩ [.int .i64 a.op, .int .i64 a.ct, .int .i64 a.n, .int .i64 a.m, .int .i64 a.va, .slice kA vs.length kcap] FF) := (zA4 _ _ _).2 ⟨_, rfl, HF1.out⟩
   rw [hq] at hpq hm1
   clear hf1 hf3 hq
   by_cases hm5 : m ≤ 5
   ·have d1 : decide (m ≤ 5) = true := decide_eq_true hm5
    clear hm5
    go_wp2_with fail
    refine (zAF 6 pq g wr HRq.out (by omega) (by omega) (by omega)).mono ?_
    rintro e w10 ⟨r10, rfl, -, hR10, hC10⟩
    have KDX := jj (KD.out.same (hC10.block _ klt (HG1.out _ (by omega))))
    have KRX := jj (KRr.out.same (hC10.block _ KRr.out.lt (HG1.out _ (by omega))))
    have HCX := jj (HCw.out.trans hC10)
    have HRX := jj hR10
    have hzX := hC10.size
    have HRPX := jj (PR.mono _ _ _ (hC10.kept (fun b hb => (HF3.out b hb).1) HFg.out) HRP.out)
    have HFX : Hid (∀ b ∈ FF, b < w10.heap.size ∧ (b ∈ G ∨ w.heap.size ≤ b) ∧ b ≠ w.heap.size + 1) := fun b hb => ⟨zz9 (HF3.out b hb).1 hzX, (HF3.out b hb).2⟩
    clear z0 z1 z2 z3 z4 z5 zlt hR10 hC10
    cases q10 : ((r10 : Int) == 0) with
    |true =>
     have hmw : IntKind.i64.wrap (m + 1) = m + 1 := IntWalk.i64_in _ (by omega)
     have e0 := (KDX.out.cell 0).trans (show _ = some (.int .i64 a.op) from by simp)
     have e1 := (KDX.out.cell 1).trans (show _ = some (.int .i64 a.ct) from by simp)
     have e2 := (KDX.out.cell 2).trans (show _ = some (.int .i64 a.n) from by simp)
     have e3 := (KDX.out.cell 3).trans (show _ = some (.int .i64 a.m) from by simp)
     have e4 := (KDX.out.cell 4).trans (show _ = some (.int .i64 a.va) from by simp)
     have e5 := (KDX.out.cell 5).trans (show _ = some (.slice kA vs.length kcap) from by simp)
     have elt := KDX.out.lt
     have rc0 := (KRX.out.cell 0).trans (show _ = some (.int .i64 0) from by simp)
     have rf0 := KRX.out.frozen 0
     have rc1 := (KRX.out.cell 1).trans (show _ = some (.int .i64 0) from by simp)
     have rf1 := KRX.out.frozen 1
     have rc2 := (KRX.out.cell 2).trans (show _ = some (.int .i64 0) from by simp)
     have rf2 := KRX.out.frozen 2
     have rc3 := (KRX.out.cell 3).trans (show _ = some (.int .i64 0) from by simp)
     have rf3 := KRX.out.frozen 3
     have rc4 := (KRX.out.cell 4).trans (show _ = some (.int .i64 0) from by simp)
     have rf4 := KRX.out.frozen 4
     have rc5 := (KRX.out.cell 5).trans (show _ = some (.slice none 0 0) from by simp)
     have rf5 := KRX.out.frozen 5
     have rlt := KRX.out.lt
     go_wp2
     clear rc0 rf0 rc1 rf1 rc2 rf2 rc3 rf3 rc4 rf4 rc5 rf5 rlt
     obtain ⟨w6, hw6⟩ : ∃ X, X = ((((((w10.setCell ⟨w.heap.size + 1, 0, none⟩ (.int .i64 6)).setCell ⟨w.heap.size + 1, 1, none⟩ (.int .i64 0)).setCell ⟨w.heap.size + 1, 2, none⟩ (.int .i64 0)).setCell ⟨w.heap.size + 1, 3, none⟩ (.int .i64 0)).setCell ⟨w.heap.size + 1, 4, none⟩ (.int .i64 m)).setCell ⟨w.heap.size + 1, 5, none⟩ (.slice (some ⟨w10.heap.size, 0, none⟩) 1 1)) := ⟨_, rfl⟩
     have hs6 : w6.heap.size = w10.heap.size := by rw [hw6, zAN]
     have K6 : Hid (Blk w6 (w.heap.size + 1) 25 #[.int .i64 6, .int .i64 0, .int .i64 0, .int .i64 0, .int .i64 m, .slice (some ⟨w10.heap.size, 0, none⟩) 1 1]) := by rw [hw6]; exact KRX.out.six _ _ _ _ _ _
     have hkp : Kept FF w10 w6 := by rw [hw6]; exact zAM (w := w10) (H := w.heap.size + 1) (fun b hb => (HFX.out b hb).2.2) _ _ _ _ _ _
     have HP6 := jj (PR.mono _ _ _ hkp HRPX.out)
     have HR6 : Hid (Rd w6 g (pq + 1)) := by rw [hw6]; exact zB2 HRX.out (by omega) _ _ _ _ _ _
     have HC6 : Hid (Chg [g] w w6) := by rw [hw6]; exact zAL HCX.out (by omega) _ _ _ _ _ _
     rw [← hw6]
     clear hw6 hkp
     have hbW : Below w6.heap.size w6 (w6.alloc (.cells #[.int .i64 a.op, .int .i64 a.ct, .int .i64 a.n, .int .i64 a.m, .int .i64 a.va, .slice kA vs.length kcap] 25)) := (zy2 _ _).alloc (zz8 _) _
     have KAW : Hid (Blk (w6.alloc (.cells #[.int .i64 a.op, .int .i64 a.ct, .int .i64 a.n, .int .i64 a.m, .int .i64 a.va, .slice kA vs.length kcap] 25)) w10.heap.size 25 #[.int .i64 a.op, .int .i64 a.ct, .int .i64 a.n, .int .i64 a.m, .int .i64 a.va, .slice kA vs.length kcap]) := by rw [← hs6]; exact Blk.new _ _ _
     have KRW := jj (K6.out.same (hbW.block _ K6.out.lt))
     have HCW := jj (HC6.out.step hbW)
     have HRW := jj (HR6.out.below hbW)
     have HPW := jj (HP6.out.below hbW (fun b hb => by rw [hs6]; exact (HFX.out b hb).1))
     have hsW : (w6.alloc (.cells #[.int .i64 a.op, .int .i64 a.ct, .int .i64 a.n, .int .i64 a.m, .int .i64 a.va, .slice kA vs.length kcap] 25)).heap.size = w10.heap.size + 1 := by rw [World.size_alloc, hs6]
     generalize (w6.alloc (.cells #[.int .i64 a.op, .int .i64 a.ct, .int .i64 a.n, .int .i64 a.m, .int .i64 a.va, .slice kA vs.length kcap] 25)) = wW at *
     have HFW : Hid (∀ b ∈ w10.heap.size :: FF, b < wW.heap.size ∧ (b ∈ G ∨ w.heap.size ≤ b)) := fun b hb => by
      rcases List.mem_cons.1 hb with h | h
      ·exact ⟨by omega, .inr (by omega)⟩
      ·have := HFX.out b h; exact ⟨by omega, this.2.1⟩
     have HAW : Hid (PR wW ⟨6, 0, 0, 0, m, [⟨a.op, a.ct, a.n, a.m, a.va, vs⟩]⟩ [.int .i64 6, .int .i64 0, .int .i64 0, .int .i64 0, .int .i64 m, .slice (some ⟨w10.heap.size, 0, none⟩) 1 1] (w10.heap.size :: FF)) := (zA4 _ _ _).2 ⟨_, rfl, arr_pat1 KAW.out HPW.out⟩
     have HSW : Hid (nodesP ⟨6, 0, 0, 0, m, [⟨a.op, a.ct, a.n, a.m, a.va, vs⟩]⟩ ≤ 2 * nodesP a) := by have h1 := HSZ.out; unfold Hid; rw [zA5]; simp only [P.sizes]; unfold nodesP at h1 ⊢; omega
     refine bodyPost_ret (zAB rfl _ _ (w.heap.size + 1) 25 #[.int .i64 6, .int .i64 0, .int .i64 0, .int .i64 0, .int .i64 m, .slice (some ⟨w10.heap.size, 0, none⟩) 1 1] (0, 0) _ rfl KRW.out Try.underlying25 rfl rfl) rfl ?_
     exact ⟨⟨6, 0, 0, 0, m, [⟨a.op, a.ct, a.n, a.m, a.va, vs⟩]⟩, [.int .i64 6, .int .i64 0, .int .i64 0, .int .i64 0, .int .i64 m, .slice (some ⟨w10.heap.size, 0, none⟩) 1 1], (w10.heap.size :: FF), pq + 1, (m + 1), rfl, HAW.out, HFW.out, HSW.out, HRW.out, by omega, HCW.out, by omega, by omega⟩
    |false =>
     have e0 := (KDX.out.cell 0).trans (show _ = some (.int .i64 a.op) from by simp)
     have e1 := (KDX.out.cell 1).trans (show _ = some (.int .i64 a.ct) from by simp)
     have e2 := (KDX.out.cell 2).trans (show _ = some (.int .i64 a.n) from by simp)
     have e3 := (KDX.out.cell 3).trans (show _ = some (.int .i64 a.m) from by simp)
     have e4 := (KDX.out.cell 4).trans (show _ = some (.int .i64 a.va) from by simp)
     have e5 := (KDX.out.cell 5).trans (show _ = some (.slice kA vs.length kcap) from by simp)
     have elt := KDX.out.lt
     have rc0 := (KRX.out.cell 0).trans (show _ = some (.int .i64 0) from by simp)
     have rf0 := KRX.out.frozen 0
     have rc1 := (KRX.out.cell 1).trans (show _ = some (.int .i64 0) from by simp)
     have rf1 := KRX.out.frozen 1
     have rc2 := (KRX.out.cell 2).trans (show _ = some (.int .i64 0) from by simp)
     have rf2 := KRX.out.frozen 2
     have rc3 := (KRX.out.cell 3).trans (show _ = some (.int .i64 0) from by simp)
     have rf3 := KRX.out.frozen 3
     have rc4 := (KRX.out.cell 4).trans (show _ = some (.int .i64 0) from by simp)
     have rf4 := KRX.out.frozen 4
     have rc5 := (KRX.out.cell 5).trans (show _ = some (.slice none 0 0) from by simp)
     have rf5 := KRX.out.frozen 5
     have rlt := KRX.out.lt
     go_wp2
     clear rc0 rf0 rc1 rf1 rc2 rf2 rc3 rf3 rc4 rf4 rc5 rf5 rlt
     refine bodyPost_ret (zAB rfl _ _ (w.heap.size + 1) 25 #[.int .i64 a.op, .int .i64 a.ct, .int .i64 a.n, .int .i64 a.m, .int .i64 a.va, .slice kA vs.length kcap] (0, 0) _ rfl (KRX.out.six _ _ _ _ _ _) Try.underlying25 rfl rfl) rfl ?_
     have hkp : Kept FF w10 _ := zAM (w := w10) (H := w.heap.size + 1) (fun b hb => (HFX.out b hb).2.2) (.int .i64 a.op) (.int .i64 a.ct) (.int .i64 a.n) (.int .i64 a.m) (.int .i64 a.va) (.slice kA vs.length kcap)
     exact ⟨⟨a.op, a.ct, a.n, a.m, a.va, vs⟩, [.int .i64 a.op, .int .i64 a.ct, .int .i64 a.n, .int .i64 a.m, .int .i64 a.va, .slice kA vs.length kcap], FF, pq + 1, m, rfl, PR.mono _ _ _ hkp HRPX.out, fun b hb => ⟨by rw [zAN]; exact (HFX.out b hb).1, (HFX.out b hb).2.1⟩, by have := HSZ.out; omega, zB2 HRX.out (by omega) _ _ _ _ _ _, by omega, zAL HCX.out (by omega) _ _ _ _ _ _, hm0, by omega⟩
   ·have d1 : decide (m ≤ 5) = false := decide_eq_false hm5
    clear hm5 z0 z1 z2 z3 z4 z5
    have z5 : wr.cell? ⟨w.heap.size, 5, none⟩ = some (.slice A4 a.ks.length cap4) := (KPr.out.cell 5).trans (by simp)
    have e0 := (KD.out.cell 0).trans (show _ = some (.int .i64 a.op) from by simp)
    have e1 := (KD.out.cell 1).trans (show _ = some (.int .i64 a.ct) from by simp)
    have e2 := (KD.out.cell 2).trans (show _ = some (.int .i64 a.n) from by simp)
    have e3 := (KD.out.cell 3).trans (show _ = some (.int .i64 a.m) from by simp)
    have e4 := (KD.out.cell 4).trans (show _ = some (.int .i64 a.va) from by simp)
    have e5 := (KD.out.cell 5).trans (show _ = some (.slice kA vs.length kcap) from by simp)
    have elt := KD.out.lt
    have rc0 := (KRr.out.cell 0).trans (show _ = some (.int .i64 0) from by simp)
    have rf0 := KRr.out.frozen 0
    have rc1 := (KRr.out.cell 1).trans (show _ = some (.int .i64 0) from by simp)
    have rf1 := KRr.out.frozen 1
    have rc2 := (KRr.out.cell 2).trans (show _ = some (.int .i64 0) from by simp)
    have rf2 := KRr.out.frozen 2
    have rc3 := (KRr.out.cell 3).trans (show _ = some (.int .i64 0) from by simp)
    have rf3 := KRr.out.frozen 3
    have rc4 := (KRr.out.cell 4).trans (show _ = some (.int .i64 0) from by simp)
    have rf4 := KRr.out.frozen 4
    have rc5 := (KRr.out.cell 5).trans (show _ = some (.slice none 0 0) from by simp)
    have rf5 := KRr.out.frozen 5
    have rlt := KRr.out.lt
    go_wp2
    clear rc0 rf0 rc1 rf1 rc2 rf2 rc3 rf3 rc4 rf4 rc5 rf5 rlt
    refine bodyPost_ret (zAB rfl _ _ (w.heap.size + 1) 25 #[.int .i64 a.op, .int .i64 a.ct, .int .i64 a.n, .int .i64 a.m, .int .i64 a.va, .slice kA vs.length kcap] (0, 0) _ rfl (KRr.out.six _ _ _ _ _ _) Try.underlying25 rfl rfl) rfl ?_
    have hkp : Kept FF wr _ := zAM (w := wr) (H := w.heap.size + 1) (fun b hb => (HF3.out b hb).2.2) (.int .i64 a.op) (.int .i64 a.ct) (.int .i64 a.n) (.int .i64 a.m) (.int .i64 a.va) (.slice kA vs.length kcap)
    exact ⟨⟨a.op, a.ct, a.n, a.m, a.va, vs⟩, [.int .i64 a.op, .int .i64 a.ct, .int .i64 a.n, .int .i64 a.m, .int .i64 a.va, .slice kA vs.length kcap], FF, pq, m, rfl, PR.mono _ _ _ hkp HRP.out, fun b hb => ⟨by rw [zAN]; exact (HF3.out b hb).1, (HF3.out b hb).2.1⟩, by have := HSZ.out; omega, zB2 HRq.out (by omega) _ _ _ _ _ _, by omega, zAL HCw.out (by omega) _ _ _ _ _ _, hm0, by omega⟩
set_option maxHeartbeats 8000000 in
theorem l3Name_any (a : P) (ih : ∀ k ∈ a.ks, NameP k) (w : World) (p g : Nat) (n : Int) (cs : List Value) (G : List Nat) (hr : Rd w g p) (hp : p + 2 * nodesP a ≤ 900000) (hn0 : 0 ≤ n) (hn1 : n + 2 * (nodesP a : Int) ≤ 1000000) (hv : PR w a cs G) (hG : Under w.heap.size G) (hGg : ∀ b ∈ G, b ≠ g) (h5 : decide (n > 5) = false) (q5 : (a.op == 5) = false) (q3 : (a.op == 3) = false) (q1 : (a.op == 1) = true) :
  Calls Try.prog 98 #[.pointer (some ⟨g, 0, none⟩), .agg cs.toArray, .int .i64 n] w (DrewPN (2 * nodesP a) p (2 * nodesP a) g (n + 2 * (nodesP a : Int)) G w) := by
 obtain ⟨kv, rfl, ha⟩ := (zA4 _ _ _).1 hv
 obtain ⟨A4, cap4, rfl, hc3, hc4⟩ := ha.form
 have IH := jj ih
 have hgl := hr.lt
 have hnp : 1 ≤ nodesP a := by unfold nodesP; omega
 have hka := zAK a (zz8 a.ks.length)
 have hkl : a.ks.length ≤ 1000000 := by
  have h1 := P.sizes_eq a.ks
  have h2 := zA5 a
  omega
 have hB0 : Below w.heap.size w ((w.alloc (.cells #[.int .i64 a.op, .int .i64 a.ct, .int .i64 a.n, .int .i64 a.m, .int .i64 a.va, .slice A4 a.ks.length cap4] 25)).alloc (.cells #[.int .i64 0, .int .i64 0, .int .i64 0, .int .i64 0, .int .i64 0, .slice none 0 0] 25)) := ((zy2 _ _).alloc (zz8 _) _).alloc (by simp) _
 have KP : Hid (Blk ((w.alloc (.cells #[.int .i64 a.op, .int .i64 a.ct, .int .i64 a.n, .int .i64 a.m, .int .i64 a.va, .slice A4 a.ks.length cap4] 25)).alloc (.cells #[.int .i64 0, .int .i64 0, .int .i64 0, .int .i64 0, .int .i64 0, .slice none 0 0] 25)) w.heap.size 25 #[.int .i64 a.op, .int .i64 a.ct, .int .i64 a.n, .int .i64 a.m, .int .i64 a.va, .slice A4 a.ks.length cap4]) := (Blk.new w _ _).same (Below.heap_alloc _ _ _ (by simp))
 have KR : Hid (Blk ((w.alloc (.cells #[.int .i64 a.op, .int .i64 a.ct, .int .i64 a.n, .int .i64 a.m, .int .i64 a.va, .slice A4 a.ks.length cap4] 25)).alloc (.cells #[.int .i64 0, .int .i64 0, .int .i64 0, .int .i64 0, .int .i64 0, .slice none 0 0] 25)) (w.heap.size + 1) 25 #[.int .i64 0, .int .i64 0, .int .i64 0, .int .i64 0, .int .i64 0, .slice none 0 0]) := zA8 w _ 25 _
 have HR := jj (hr.below hB0)
 have hz2 : ((w.alloc (.cells #[.int .i64 a.op, .int .i64 a.ct, .int .i64 a.n, .int .i64 a.m, .int .i64 a.va, .slice A4 a.ks.length cap4] 25)).alloc (.cells #[.int .i64 0, .int .i64 0, .int .i64 0, .int .i64 0, .int .i64 0, .slice none 0 0] 25)).heap.size = w.heap.size + 2 := by simp
 have HC0 : Hid (Chg [g] w ((w.alloc (.cells #[.int .i64 a.op, .int .i64 a.ct, .int .i64 a.n, .int .i64 a.m, .int .i64 a.va, .slice A4 a.ks.length cap4] 25)).alloc (.cells #[.int .i64 0, .int .i64 0, .int .i64 0, .int .i64 0, .int .i64 0, .slice none 0 0] 25))) := .of_below hB0
 have HV0 := jj (hv.below hB0 hG)
 have HUN : Hid (∀ b ∈ G, b < ((w.alloc (.cells #[.int .i64 a.op, .int .i64 a.ct, .int .i64 a.n, .int .i64 a.m, .int .i64 a.va, .slice A4 a.ks.length cap4] 25)).alloc (.cells #[.int .i64 0, .int .i64 0, .int .i64 0, .int .i64 0, .int .i64 0, .slice none 0 0] 25)).heap.size ∧ (b ∈ G ∨ w.heap.size ≤ b) ∧ b ≠ w.heap.size + 1) := fun b hb => ⟨by have := hG b hb; omega, .inl hb, by have := hG b hb; omega⟩
 have HA := jj ha
 have HV := jj hv
 have HRw := jj hr
 have HG := jj hG
 have HGg := jj hGg
 have HG1 : Hid (∀ b, g < b → b ∉ [g]) := fun b hb h => by rw [zy1] at h; omega
 clear ih hr hv ha hG hGg hB0
 go_enter Try.func98, Try.ntmps98
 go_wp2_with fail
 obtain ⟨w2, hw2⟩ : ∃ X, X = ((w.alloc (.cells #[.int .i64 a.op, .int .i64 a.ct, .int .i64 a.n, .int .i64 a.m, .int .i64 a.va, .slice A4 a.ks.length cap4] 25)).alloc (.cells #[.int .i64 0, .int .i64 0, .int .i64 0, .int .i64 0, .int .i64 0, .slice none 0 0] 25)) := ⟨_, rfl⟩
 rw [← hw2] at KP KR HR hz2 HC0 HV0 HUN ⊢
 clear hw2
 have z0 : w2.cell? ⟨w.heap.size, 0, none⟩ = some (.int .i64 a.op) := (KP.out.cell 0).trans (by simp)
 have z1 : w2.cell? ⟨w.heap.size, 1, none⟩ = some (.int .i64 a.ct) := (KP.out.cell 1).trans (by simp)
 have z2 : w2.cell? ⟨w.heap.size, 2, none⟩ = some (.int .i64 a.n) := (KP.out.cell 2).trans (by simp)
 have z3 : w2.cell? ⟨w.heap.size, 3, none⟩ = some (.int .i64 a.m) := (KP.out.cell 3).trans (by simp)
 have z4 : w2.cell? ⟨w.heap.size, 4, none⟩ = some (.int .i64 a.va) := (KP.out.cell 4).trans (by simp)
 have z5 : w2.cell? ⟨w.heap.size, 5, none⟩ = some (.slice A4 a.ks.length cap4) := (KP.out.cell 5).trans (by simp)
 have zlt := KP.out.lt
 refine (zAF 2 p g w2 HR.out (by omega) (by omega) (by omega)).mono ?_
 rintro e w3 ⟨r, rfl, -, hR3, hC3⟩
 have KP3 := jj (KP.out.same (hC3.block _ KP.out.lt (HG1.out _ hgl)))
 have KR3 := jj (KR.out.same (hC3.block _ KR.out.lt (HG1.out _ (by omega))))
 have HC3 := jj (HC0.out.trans hC3)
 have HR3 := jj hR3
 have hz3 := hC3.size
 clear z0 z1 z2 z3 z4 z5 zlt hR3 hC3 KP KR HC0 HR HV0 HUN
 obtain ⟨p3, hp3⟩ : ∃ q, q = p + 1 := ⟨_, rfl⟩
 rw [← hp3] at HR3
 cases qr : ((r : Int) == 0) with
 |true =>
  have hnw : IntKind.i64.wrap (n + 1) = n + 1 := IntWalk.i64_in _ (by omega)
  have HE : Hid (∀ b ∈ ([] : List Nat), b < w3.heap.size ∧ (b ∈ G ∨ w.heap.size ≤ b) ∧ b ≠ w.heap.size + 1) := fun b hb => by cases hb
  have rc0 := (KR3.out.cell 0).trans (show _ = some (.int .i64 0) from by simp)
  have rf0 := KR3.out.frozen 0
  have rc1 := (KR3.out.cell 1).trans (show _ = some (.int .i64 0) from by simp)
  have rf1 := KR3.out.frozen 1
  have rc2 := (KR3.out.cell 2).trans (show _ = some (.int .i64 0) from by simp)
  have rf2 := KR3.out.frozen 2
  have rc3 := (KR3.out.cell 3).trans (show _ = some (.int .i64 0) from by simp)
  have rf3 := KR3.out.frozen 3
  have rc4 := (KR3.out.cell 4).trans (show _ = some (.int .i64 0) from by simp)
  have rf4 := KR3.out.frozen 4
  have rc5 := (KR3.out.cell 5).trans (show _ = some (.slice none 0 0) from by simp)
  have rf5 := KR3.out.frozen 5
  have rlt := KR3.out.lt
  go_wp2
  clear rc0 rf0 rc1 rf1 rc2 rf2 rc3 rf3 rc4 rf4 rc5 rf5 rlt
  refine bodyPost_ret (zAB rfl _ _ (w.heap.size + 1) 25 #[.int .i64 2, .int .i64 0, .int .i64 0, .int .i64 0, .int .i64 n, .slice none 0 0] (0, 0) _ rfl (KR3.out.six _ _ _ _ _ _) Try.underlying25 rfl rfl) rfl ?_
  have hkp : Kept ([] : List Nat) w3 _ := zAM (w := w3) (H := w.heap.size + 1) (fun b hb => (HE.out b hb).2.2) (.int .i64 2) (.int .i64 0) (.int .i64 0) (.int .i64 0) (.int .i64 n) (.slice none 0 0)
  exact ⟨⟨2, 0, 0, 0, n, []⟩, [.int .i64 2, .int .i64 0, .int .i64 0, .int .i64 0, .int .i64 n, .slice none 0 0], ([] : List Nat), p3, (n + 1), rfl, PR.mono _ _ _ hkp ((zA4 _ _ _).2 ⟨_, rfl, Arr.nil⟩), fun b hb => ⟨by rw [zAN]; exact (HE.out b hb).1, (HE.out b hb).2.1⟩, by simp [nodesP, P.size, P.sizes]; omega, zB2 HR3.out (by omega) _ _ _ _ _ _, by omega, zAL HC3.out (by omega) _ _ _ _ _ _, by omega, by omega⟩
 |false =>
  have KP3 := jj KP3.out
  have z0 : w3.cell? ⟨w.heap.size, 0, none⟩ = some (.int .i64 a.op) := (KP3.out.cell 0).trans (by simp)
  have z1 : w3.cell? ⟨w.heap.size, 1, none⟩ = some (.int .i64 a.ct) := (KP3.out.cell 1).trans (by simp)
  have z2 : w3.cell? ⟨w.heap.size, 2, none⟩ = some (.int .i64 a.n) := (KP3.out.cell 2).trans (by simp)
  have z3 : w3.cell? ⟨w.heap.size, 3, none⟩ = some (.int .i64 a.m) := (KP3.out.cell 3).trans (by simp)
  have z4 : w3.cell? ⟨w.heap.size, 4, none⟩ = some (.int .i64 a.va) := (KP3.out.cell 4).trans (by simp)
  have z5 : w3.cell? ⟨w.heap.size, 5, none⟩ = some (.slice A4 a.ks.length cap4) := (KP3.out.cell 5).trans (by simp)
  have zlt := KP3.out.lt
  go_wp2
  clear qr
  obtain ⟨w9, hw9⟩ : ∃ X, X = (w3.alloc (.cells #[.int .i64 a.op, .int .i64 a.ct, .int .i64 a.n, .int .i64 a.m, .int .i64 a.va, .slice none 0 0] 25)) := ⟨_, rfl⟩
  obtain ⟨D, hD⟩ : ∃ D, D = w3.heap.size := ⟨_, rfl⟩
  have hDw : D = w3.heap.size := hD
  have KN9 : Hid (Blk w9 D 25 #[.int .i64 a.op, .int .i64 a.ct, .int .i64 a.n, .int .i64 a.m, .int .i64 a.va, .slice none 0 0]) := by rw [hw9, hDw]; exact Blk.new w3 25 _
  have hk9 : ∀ b, b < D → w9.heap[b]? = w3.heap[b]? := fun b hb => by rw [hw9, Below.heap_alloc _ _ _ (by omega)]
  have hs9 : w9.heap.size = D + 1 := by rw [hw9, hDw]; simp
  have HC9 : Hid (Chg [g] w w9) := by rw [hw9]; exact HC3.out.alloc _
  have hD2 : w.heap.size + 2 ≤ D := by omega
  rw [← hD]
  rw [← hw9]
  clear hDw
  clear hw9
  have KP9 := jj (KP3.out.same (hk9 _ (by omega)))
  have KR9 := jj (KR3.out.same (hk9 _ (by omega)))
  have HR9 := jj (HR3.out.keep (w' := w9) (fun b hb => hk9 b (by omega)))
  clear z0 z1 z2 z3 z4 z5 zlt
  clear hk9 KP3 KR3 HC3 HR3 hD
  obtain ⟨i0, hi, hz0, hz1, hz2'⟩ := info_parts info_PE
  have HI := jj hi
  have HZ0 := jj hz0
  have HZ1 := jj hz1
  have HZ2x := jj hz2'
  clear hi hz0 hz1 hz2'
  go_loopw [9, 10] (fun mv iv wr => ∃ q : Nat, ∃ m : Int, ∃ kv : Value, ∃ Fk : List Nat, ∃ vs : List P, ∃ pq : Nat, q ≤ a.ks.length ∧ iv = .int .i64 q ∧ mv = .int .i64 m ∧ Hid (vs.length = q) ∧ Hid (P.sizes vs ≤ 2 * kidSum a q) ∧ Hid (Blk wr D 25 #[.int .i64 a.op, .int .i64 a.ct, .int .i64 a.n, .int .i64 a.m, .int .i64 a.va, kv]) ∧ Hid (Own wr (D + 1) 25 6 PR vs kv Fk) ∧ Hid (∀ b ∈ Fk, b ∈ G ∨ D + 1 ≤ b) ∧ Hid (Chg [D, g] w9 wr) ∧ Hid (Chg [g] w wr) ∧ w9.heap.size ≤ wr.heap.size ∧ Hid (Rd wr g pq) ∧ pq ≤ p3 + 2 * kidSum a q ∧ 0 ≤ m ∧ m ≤ n + 2 * ((kidSum a q : Nat) : Int)) (fun _ iv _ => a.ks.length - (intOf iv).toNat)
  case atStart => exact ⟨0, n, _, [], [], p3, Nat.zero_le _, rfl, rfl, rfl, Nat.zero_le _, KN9, Own.nil _ _ _ _ _, (fun b hb => by cases hb), Chg.refl _ _, HC9, zz8 _, HR9, by omega, hn0, by omega⟩
  case round =>
   clear HC9 KN9 HR9
   obtain ⟨q, m, kv, Fk, vs, pq, hql, rfl, rfl, HVL, HVS, KD, HO, HFh, HC, HCw, hws9, HRq, hpq, hm0, hm1⟩ := hrel
   obtain ⟨kA, kcap, hkv, hkc1, hkc2⟩ := HO.out.form
   subst hkv
   have hDg : ∀ b, g < b → b ≠ D → b ∉ [D, g] := fun b h1 h2 h => by
    rcases List.mem_cons.1 h with h3 | h3
    ·exact h2 h3
    ·rw [zy1] at h3; omega
   have KPr := jj (KP9.out.same (HC.out.block _ KP9.out.lt (hDg _ hgl (by omega))))
   have KRr := jj (KR9.out.same (HC.out.block _ KR9.out.lt (hDg _ (by omega) (by omega))))
   have HFk : Hid (∀ b ∈ Fk, b ≠ D ∧ b ≠ g) := fun b hb => by
    rcases HFh.out b hb with h | h
    ·exact ⟨by have := HG.out b h; omega, HGg.out b h⟩
    ·exact ⟨by omega, by omega⟩
   have HAr : Hid (Arr wr (PR wr) a.ks (.slice A4 a.ks.length cap4) G) := ArrP.mono HA.out (HCw.out.kept HG.out (fun b hb h => by rw [zy1] at h; exact HGg.out b hb h))
   have HGr : Hid (Under wr.heap.size G) := HG.out.mono HCw.out.size
   have klt := KD.out.lt
   clear hDg
   have z0 : wr.cell? ⟨w.heap.size, 0, none⟩ = some (.int .i64 a.op) := (KPr.out.cell 0).trans (by simp)
   have z1 : wr.cell? ⟨w.heap.size, 1, none⟩ = some (.int .i64 a.ct) := (KPr.out.cell 1).trans (by simp)
   have z2 : wr.cell? ⟨w.heap.size, 2, none⟩ = some (.int .i64 a.n) := (KPr.out.cell 2).trans (by simp)
   have z3 : wr.cell? ⟨w.heap.size, 3, none⟩ = some (.int .i64 a.m) := (KPr.out.cell 3).trans (by simp)
   have z4 : wr.cell? ⟨w.heap.size, 4, none⟩ = some (.int .i64 a.va) := (KPr.out.cell 4).trans (by simp)
   have z5 : wr.cell? ⟨w.heap.size, 5, none⟩ = some (.slice A4 a.ks.length cap4) := (KPr.out.cell 5).trans (by simp)
   have zlt := KPr.out.lt
   by_cases hil : q < a.ks.length
   ·have g1 : (0 : Int) ≤ (q : Int) := by omega
    have g2 : (q : Int) < (a.ks.length : Int) := by omega
    obtain ⟨b4, off4, rfl⟩ := HAr.out.ptr (by omega)
    obtain ⟨A7, cap7, G7, hb7, c0, c1, c2, c3, c4, c5, HV7, HG7, hsub, -, -⟩ := ArrP.at HAr.out HGr.out (zy2 _ _) q hil
    have HSUB := jj hsub
    have hks := zAQ a q hil
    have hkle := kidSum_le a (q + 1)
    have hvl := HVL.out
    have hvl3 : vs.length ≤ 1000000 := by omega
    clear hvl hsub
    have HME : Hid (a.ks[q] ∈ a.ks) := List.getElem_mem hil
    have HCALL := jj (IH.out a.ks[q] HME.out wr pq g m _ G7 HRq.out (by omega) hm0 (by omega) HV7.out HG7.out (fun b hb => HGg.out b (HSUB.out b hb)))
    go_wp2_with fail
    refine HCALL.out.mono ?_
    rintro e wA ⟨vA, csA, FA, qA, mA, rfl, hpA, hfA, hnA, hRA, hqA, hCA, hmA0, hmA1⟩
    obtain ⟨kvA, rfl, haA⟩ := (zA4 _ _ _).1 hpA
    obtain ⟨A8, cap8, rfl, -, -⟩ := haA.form
    have hmx : vs.length + 1 ≤ maxLen := by unfold maxLen; omega
    have hby : (vs.length + 1) * 64 ≤ 140737488355328 := by omega
    have hb9 : Below wA.heap.size wA (wA.alloc (.cells #[.int .i64 vA.op, .int .i64 vA.ct, .int .i64 vA.n, .int .i64 vA.m, .int .i64 vA.va, .slice A8 vA.ks.length cap8] 25)) := (zy2 _ _).alloc (zz8 _) _
    have HBu : Hid (Chg [g] wr (wA.alloc (.cells #[.int .i64 vA.op, .int .i64 vA.ct, .int .i64 vA.n, .int .i64 vA.m, .int .i64 vA.va, .slice A8 vA.ks.length cap8] 25))) := hCA.alloc _
    have HPb := jj (hpA.below hb9 (fun b hb => (hfA b hb).1))
    have hDg1 : D ∉ [g] := HG1.out _ (by omega)
    have KDA := hCA.block _ klt hDg1
    have zT : wA.cell? ⟨D, 5, none⟩ = some (.slice kA vs.length kcap) := ((KD.out.same KDA).cell 5).trans (by simp)
    have hkA := (KD.out.same KDA).lt
    have zfT : wA.frozen? ⟨D, 5, none⟩ = false := (KD.out.same KDA).frozen 5
    have HFA : Hid (∀ b ∈ FA, b < wA.heap.size ∧ (b ∈ G ∨ wr.heap.size ≤ b)) := fun b hb => ⟨(hfA b hb).1, by rcases (hfA b hb).2 with h | h; exact .inl (HSUB.out b h); exact .inr h⟩
    have HFA2 : Hid (∀ b ∈ FA, b ≠ D ∧ b ≠ g) := fun b hb => by
     rcases (HFA.out b hb).2 with h | h
     ·exact ⟨by have := HG.out b h; omega, HGg.out b h⟩
     ·exact ⟨by omega, by omega⟩
    have HFA3 : Hid (∀ x ∈ rowOf (.slice kA vs.length kcap), x ∉ FA) := fun x hx h => by
     have h1 := HO.out.row x hx
     rcases (HFA.out x h).2 with h2 | h2
     ·have := HG.out x h2; omega
     ·omega
    have HRA := jj (hRA.below hb9)
    have HNA := jj hnA
    have HOb : Hid (Own (wA.alloc (.cells #[.int .i64 vA.op, .int .i64 vA.ct, .int .i64 vA.n, .int .i64 vA.m, .int .i64 vA.va, .slice A8 vA.ks.length cap8] 25)) (D + 1) 25 6 PR vs (.slice kA vs.length kcap) Fk) := HO.out.chg2 PR_mono' HBu.out (fun b hb => by rw [zy1] at hb; omega) (fun b hb h => by rw [zy1] at h; exact (HFk.out b hb).2 h)
    have hsz : D + 1 ≤ (wA.alloc (.cells #[.int .i64 vA.op, .int .i64 vA.ct, .int .i64 vA.n, .int .i64 vA.m, .int .i64 vA.va, .slice A8 vA.ks.length cap8] 25)).heap.size := by have := HBu.out.size; omega
    clear z0 z1 z2 z3 z4 z5 zlt c0 c1 c2 c3 c4 c5 hpA hfA hnA hRA haA KDA HCALL hb7
    go_wp2_with (at_builtin; refine Halt.mk ?_)
    refine Halt.of (zA3 (P := Try.prog) rfl _ _ 23 rfl i0 _ 64 Try.underlying23 HI.out HZ0.out HZ1.out HZ2x.out rfl (by decide) PR_len' PR_mono' (by rfl) HOb.out vA 25 [.int .i64 vA.op, .int .i64 vA.ct, .int .i64 vA.n, .int .i64 vA.m, .int .i64 vA.va, .slice A8 vA.ks.length cap8] FA _ (by rfl) (by simp) (by simp [Value.oneCell']) HPb.out (fun b hb => by rw [World.size_alloc]; have := (HFA.out b hb).1; omega) HFA3.out hmx hby hsz ?_)
    intro gz cp w7 hown7 hgr7 hat7
    have hrow := HOb.out.row
    have n7 : some D ≠ (Value.ownBlock (.slice kA vs.length kcap)) := fun e => by have := (hrow D (zA2.2 e.symm)).1; omega
    have hl7 : D < ((wA.alloc (.cells #[.int .i64 vA.op, .int .i64 vA.ct, .int .i64 vA.n, .int .i64 vA.m, .int .i64 vA.va, .slice A8 vA.ks.length cap8] 25)).alloc (.cells [.int .i64 vA.op, .int .i64 vA.ct, .int .i64 vA.n, .int .i64 vA.m, .int .i64 vA.va, .slice A8 vA.ks.length cap8].toArray 25)).heap.size := by rw [World.size_alloc, World.size_alloc]; omega
    have z71 : w7.cell? ⟨D, 5, none⟩ = some (.slice kA vs.length kcap) := (World.grownBy.cell_far hgr7 ⟨D, 5, none⟩ hl7 n7).trans ((World.cell?_alloc_lt _ _ _ (by rw [World.size_alloc]; show D < _; omega)).trans ((World.cell?_alloc_lt _ _ _ (show D < wA.heap.size from hkA)).trans zT))
    have zf71 : w7.frozen? ⟨D, 5, none⟩ = false := (World.grownBy.frozen_far hgr7 ⟨D, 5, none⟩ hl7 n7).trans (Eq.trans (World.frozen?_of_block (Below.heap_alloc _ _ _ (by rw [World.size_alloc]; show D < _; omega))) (Eq.trans (World.frozen?_of_block (Below.heap_alloc _ _ _ (show D < wA.heap.size from hkA))) zfT))
    obtain ⟨r1, r2, r3, r4, r5, r6, r7⟩ := kid_round4 (w := w) 5 PR_mono' hs9 (Nat.lt_succ_self D) hgl (by omega) KD.out HO.out HFk.out HC.out HCw.out HBu.out HFA2.out hown7 hgr7 HRA.out
    have R1 := jj r1
    have R2 := jj r2
    have R4 := jj r4
    have R5 := jj r5
    have R7 := jj r7
    have R3 : Hid (∀ b ∈ Fk ++ FA, b ∈ G ∨ D + 1 ≤ b) := fun b hb => by
     rcases List.mem_append.1 hb with h | h
     ·exact HFh.out b h
     ·rcases (HFA.out b h).2 with h2 | h2
      ·exact .inl h2
      ·exact .inr (by omega)
    have HV2 : Hid ((vs ++ [vA]).length = q + 1) := by have := HVL.out; unfold Hid; rw [List.length_append]; simp only [List.length_cons, List.length_nil]; omega
    have HS2 : Hid (P.sizes (vs ++ [vA]) ≤ 2 * kidSum a (q + 1)) := by unfold Hid; rw [hks]; exact psizes_snoc2 vs vA _ _ HVS.out HNA.out
    have HKS := jj hks
    have h7D : D < w7.heap.size := zz9 hl7 hgr7.size
    clear r1 r2 r3 r4 r5 r7 hown7 hgr7 hat7 hrow n7 hl7 zT zfT hks
    go_wp2
    go_roundw
    case rel => exact ⟨q + 1, mA, _, _, vs ++ [vA], qA, hil, by go_num, rfl, HV2, HS2, R1, (by rw [show (vs ++ [vA]).length = vs.length + 1 from by rw [List.length_append]; rfl] at *; exact R2), R3, R4, R5, r6, R7, by have := HKS.out; omega, hmA0, by have := HKS.out; push_cast [this]; omega⟩
    case measure => (simp [intOf] <;> omega)
   ·obtain ⟨FF, hf1, hf3⟩ := kid_done4 (D := D) (g := g) HO.out HFk.out (Nat.lt_succ_self D) (by omega)
    have HF1 := jj hf1
    have HF3 : Hid (∀ b ∈ FF, b < wr.heap.size ∧ (b ∈ G ∨ w.heap.size ≤ b) ∧ b ≠ w.heap.size + 1) := fun b hb => by
     have h := hf3 b hb
     rcases h.2.2.2 with h2 | h2
     ·rcases HFh.out b h2 with h3 | h3
      ·exact ⟨h.2.2.1, .inl h3, by have := HG.out b h3; omega⟩
      ·exact ⟨h.2.2.1, .inr (by omega), by omega⟩
     ·exact ⟨h.2.2.1, .inr (by omega), by omega⟩
    have HFg : Hid (∀ b ∈ FF, b ∉ [g]) := fun b hb h => by rw [zy1] at h; exact (hf3 b hb).2.1 h
    have hq : q = a.ks.length := by omega
    have HSZ : Hid (nodesP ⟨a.op, a.ct, a.n, a.m, a.va, vs⟩ ≤ 2 * nodesP a - 1) := by have h1 := HVS.out; rw [hq] at h1; unfold Hid; rw [zA5]; simp only; omega
    have HRP : Hid (PR wr ⟨a.op, a.ct, a.n, a.m, a.va, vs⟩ [.int .i64 a.op, .int .i64 a.ct, .int .i64 a.n, .int .i64 a.m, .int .i64 a.va, .slice kA vs.length kcap] FF) := (zA4 _ _ _).2 ⟨_, rfl, HF1.out⟩
    rw [hq] at hpq hm1
    clear hf1 hf3 hq
    by_cases hm5 : m ≤ 5
    ·have d1 : decide (m ≤ 5) = true := decide_eq_true hm5
     clear hm5
     go_wp2_with fail
     refine (zAF 6 pq g wr HRq.out (by omega) (by omega) (by omega)).mono ?_
     rintro e w10 ⟨r10, rfl, -, hR10, hC10⟩
     have KDX := jj (KD.out.same (hC10.block _ klt (HG1.out _ (by omega))))
     have KRX := jj (KRr.out.same (hC10.block _ KRr.out.lt (HG1.out _ (by omega))))
     have HCX := jj (HCw.out.trans hC10)
     have HRX := jj hR10
     have hzX := hC10.size
     have HRPX := jj (PR.mono _ _ _ (hC10.kept (fun b hb => (HF3.out b hb).1) HFg.out) HRP.out)
     have HFX : Hid (∀ b ∈ FF, b < w10.heap.size ∧ (b ∈ G ∨ w.heap.size ≤ b) ∧ b ≠ w.heap.size + 1) := fun b hb => ⟨zz9 (HF3.out b hb).1 hzX, (HF3.out b hb).2⟩
     clear z0 z1 z2 z3 z4 z5 zlt hR10 hC10
     cases q10 : ((r10 : Int) == 0) with
     |true =>
      have hmw : IntKind.i64.wrap (m + 1) = m + 1 := IntWalk.i64_in _ (by omega)
      have e0 := (KDX.out.cell 0).trans (show _ = some (.int .i64 a.op) from by simp)
      have e1 := (KDX.out.cell 1).trans (show _ = some (.int .i64 a.ct) from by simp)
      have e2 := (KDX.out.cell 2).trans (show _ = some (.int .i64 a.n) from by simp)
      have e3 := (KDX.out.cell 3).trans (show _ = some (.int .i64 a.m) from by simp)
      have e4 := (KDX.out.cell 4).trans (show _ = some (.int .i64 a.va) from by simp)
      have e5 := (KDX.out.cell 5).trans (show _ = some (.slice kA vs.length kcap) from by simp)
      have elt := KDX.out.lt
      have rc0 := (KRX.out.cell 0).trans (show _ = some (.int .i64 0) from by simp)
      have rf0 := KRX.out.frozen 0
      have rc1 := (KRX.out.cell 1).trans (show _ = some (.int .i64 0) from by simp)
      have rf1 := KRX.out.frozen 1
      have rc2 := (KRX.out.cell 2).trans (show _ = some (.int .i64 0) from by simp)
      have rf2 := KRX.out.frozen 2
      have rc3 := (KRX.out.cell 3).trans (show _ = some (.int .i64 0) from by simp)
      have rf3 := KRX.out.frozen 3
      have rc4 := (KRX.out.cell 4).trans (show _ = some (.int .i64 0) from by simp)
      have rf4 := KRX.out.frozen 4
      have rc5 := (KRX.out.cell 5).trans (show _ = some (.slice none 0 0) from by simp)
      have rf5 := KRX.out.frozen 5
      have rlt := KRX.out.lt
      go_wp2
      clear rc0 rf0 rc1 rf1 rc2 rf2 rc3 rf3 rc4 rf4 rc5 rf5 rlt
      obtain ⟨w6, hw6⟩ : ∃ X, X = ((((((w10.setCell ⟨w.heap.size + 1, 0, none⟩ (.int .i64 6)).setCell ⟨w.heap.size + 1, 1, none⟩ (.int .i64 0)).setCell ⟨w.heap.size + 1, 2, none⟩ (.int .i64 0)).setCell ⟨w.heap.size + 1, 3, none⟩ (.int .i64 0)).setCell ⟨w.heap.size + 1, 4, none⟩ (.int .i64 m)).setCell ⟨w.heap.size + 1, 5, none⟩ (.slice (some ⟨w10.heap.size, 0, none⟩) 1 1)) := ⟨_, rfl⟩
      have hs6 : w6.heap.size = w10.heap.size := by rw [hw6, zAN]
      have K6 : Hid (Blk w6 (w.heap.size + 1) 25 #[.int .i64 6, .int .i64 0, .int .i64 0, .int .i64 0, .int .i64 m, .slice (some ⟨w10.heap.size, 0, none⟩) 1 1]) := by rw [hw6]; exact KRX.out.six _ _ _ _ _ _
      have hkp : Kept FF w10 w6 := by rw [hw6]; exact zAM (w := w10) (H := w.heap.size + 1) (fun b hb => (HFX.out b hb).2.2) _ _ _ _ _ _
      have HP6 := jj (PR.mono _ _ _ hkp HRPX.out)
      have HR6 : Hid (Rd w6 g (pq + 1)) := by rw [hw6]; exact zB2 HRX.out (by omega) _ _ _ _ _ _
      have HC6 : Hid (Chg [g] w w6) := by rw [hw6]; exact zAL HCX.out (by omega) _ _ _ _ _ _
      rw [← hw6]
      clear hw6 hkp
      have hbW : Below w6.heap.size w6 (w6.alloc (.cells #[.int .i64 a.op, .int .i64 a.ct, .int .i64 a.n, .int .i64 a.m, .int .i64 a.va, .slice kA vs.length kcap] 25)) := (zy2 _ _).alloc (zz8 _) _
      have KAW : Hid (Blk (w6.alloc (.cells #[.int .i64 a.op, .int .i64 a.ct, .int .i64 a.n, .int .i64 a.m, .int .i64 a.va, .slice kA vs.length kcap] 25)) w10.heap.size 25 #[.int .i64 a.op, .int .i64 a.ct, .int .i64 a.n, .int .i64 a.m, .int .i64 a.va, .slice kA vs.length kcap]) := by rw [← hs6]; exact Blk.new _ _ _
      have KRW := jj (K6.out.same (hbW.block _ K6.out.lt))
      have HCW := jj (HC6.out.step hbW)
      have HRW := jj (HR6.out.below hbW)
      have HPW := jj (HP6.out.below hbW (fun b hb => by rw [hs6]; exact (HFX.out b hb).1))
      have hsW : (w6.alloc (.cells #[.int .i64 a.op, .int .i64 a.ct, .int .i64 a.n, .int .i64 a.m, .int .i64 a.va, .slice kA vs.length kcap] 25)).heap.size = w10.heap.size + 1 := by rw [World.size_alloc, hs6]
      generalize (w6.alloc (.cells #[.int .i64 a.op, .int .i64 a.ct, .int .i64 a.n, .int .i64 a.m, .int .i64 a.va, .slice kA vs.length kcap] 25)) = wW at *
      have HFW : Hid (∀ b ∈ w10.heap.size :: FF, b < wW.heap.size ∧ (b ∈ G ∨ w.heap.size ≤ b)) := fun b hb => by
       rcases List.mem_cons.1 hb with h | h
       ·exact ⟨by omega, .inr (by omega)⟩
       ·have := HFX.out b h; exact ⟨by omega, this.2.1⟩
      have HAW : Hid (PR wW ⟨6, 0, 0, 0, m, [⟨a.op, a.ct, a.n, a.m, a.va, vs⟩]⟩ [.int .i64 6, .int .i64 0, .int .i64 0, .int .i64 0, .int .i64 m, .slice (some ⟨w10.heap.size, 0, none⟩) 1 1] (w10.heap.size :: FF)) := (zA4 _ _ _).2 ⟨_, rfl, arr_pat1 KAW.out HPW.out⟩
      have HSW : Hid (nodesP ⟨6, 0, 0, 0, m, [⟨a.op, a.ct, a.n, a.m, a.va, vs⟩]⟩ ≤ 2 * nodesP a) := by have h1 := HSZ.out; unfold Hid; rw [zA5]; simp only [P.sizes]; unfold nodesP at h1 ⊢; omega
      refine bodyPost_ret (zAB rfl _ _ (w.heap.size + 1) 25 #[.int .i64 6, .int .i64 0, .int .i64 0, .int .i64 0, .int .i64 m, .slice (some ⟨w10.heap.size, 0, none⟩) 1 1] (0, 0) _ rfl KRW.out Try.underlying25 rfl rfl) rfl ?_
      exact ⟨⟨6, 0, 0, 0, m, [⟨a.op, a.ct, a.n, a.m, a.va, vs⟩]⟩, [.int .i64 6, .int .i64 0, .int .i64 0, .int .i64 0, .int .i64 m, .slice (some ⟨w10.heap.size, 0, none⟩) 1 1], (w10.heap.size :: FF), pq + 1, (m + 1), rfl, HAW.out, HFW.out, HSW.out, HRW.out, by omega, HCW.out, by omega, by omega⟩
     |false =>
      have e0 := (KDX.out.cell 0).trans (show _ = some (.int .i64 a.op) from by simp)
      have e1 := (KDX.out.cell 1).trans (show _ = some (.int .i64 a.ct) from by simp)
      have e2 := (KDX.out.cell 2).trans (show _ = some (.int .i64 a.n) from by simp)
      have e3 := (KDX.out.cell 3).trans (show _ = some (.int .i64 a.m) from by simp)
      have e4 := (KDX.out.cell 4).trans (show _ = some (.int .i64 a.va) from by simp)
      have e5 := (KDX.out.cell 5).trans (show _ = some (.slice kA vs.length kcap) from by simp)
      have elt := KDX.out.lt
      have rc0 := (KRX.out.cell 0).trans (show _ = some (.int .i64 0) from by simp)
      have rf0 := KRX.out.frozen 0
      have rc1 := (KRX.out.cell 1).trans (show _ = some (.int .i64 0) from by simp)
      have rf1 := KRX.out.frozen 1
      have rc2 := (KRX.out.cell 2).trans (show _ = some (.int .i64 0) from by simp)
      have rf2 := KRX.out.frozen 2
      have rc3 := (KRX.out.cell 3).trans (show _ = some (.int .i64 0) from by simp)
      have rf3 := KRX.out.frozen 3
      have rc4 := (KRX.out.cell 4).trans (show _ = some (.int .i64 0) from by simp)
      have rf4 := KRX.out.frozen 4
      have rc5 := (KRX.out.cell 5).trans (show _ = some (.slice none 0 0) from by simp)
      have rf5 := KRX.out.frozen 5
      have rlt := KRX.out.lt
      go_wp2
      clear rc0 rf0 rc1 rf1 rc2 rf2 rc3 rf3 rc4 rf4 rc5 rf5 rlt
      refine bodyPost_ret (zAB rfl _ _ (w.heap.size + 1) 25 #[.int .i64 a.op, .int .i64 a.ct, .int .i64 a.n, .int .i64 a.m, .int .i64 a.va, .slice kA vs.length kcap] (0, 0) _ rfl (KRX.out.six _ _ _ _ _ _) Try.underlying25 rfl rfl) rfl ?_
      have hkp : Kept FF w10 _ := zAM (w := w10) (H := w.heap.size + 1) (fun b hb => (HFX.out b hb).2.2) (.int .i64 a.op) (.int .i64 a.ct) (.int .i64 a.n) (.int .i64 a.m) (.int .i64 a.va) (.slice kA vs.length kcap)
      exact ⟨⟨a.op, a.ct, a.n, a.m, a.va, vs⟩, [.int .i64 a.op, .int .i64 a.ct, .int .i64 a.n, .int .i64 a.m, .int .i64 a.va, .slice kA vs.length kcap], FF, pq + 1, m, rfl, PR.mono _ _ _ hkp HRPX.out, fun b hb => ⟨by rw [zAN]; exact (HFX.out b hb).1, (HFX.out b hb).2.1⟩, by have := HSZ.out; omega, zB2 HRX.out (by omega) _ _ _ _ _ _, by omega, zAL HCX.out (by omega) _ _ _ _ _ _, hm0, by omega⟩
    ·have d1 : decide (m ≤ 5) = false := decide_eq_false hm5
     clear hm5 z0 z1 z2 z3 z4 z5
     have z5 : wr.cell? ⟨w.heap.size, 5, none⟩ = some (.slice A4 a.ks.length cap4) := (KPr.out.cell 5).trans (by simp)
     have e0 := (KD.out.cell 0).trans (show _ = some (.int .i64 a.op) from by simp)
     have e1 := (KD.out.cell 1).trans (show _ = some (.int .i64 a.ct) from by simp)
     have e2 := (KD.out.cell 2).trans (show _ = some (.int .i64 a.n) from by simp)
     have e3 := (KD.out.cell 3).trans (show _ = some (.int .i64 a.m) from by simp)
     have e4 := (KD.out.cell 4).trans (show _ = some (.int .i64 a.va) from by simp)
     have e5 := (KD.out.cell 5).trans (show _ = some (.slice kA vs.length kcap) from by simp)
     have elt := KD.out.lt
     have rc0 := (KRr.out.cell 0).trans (show _ = some (.int .i64 0) from by simp)
     have rf0 := KRr.out.frozen 0
     have rc1 := (KRr.out.cell 1).trans (show _ = some (.int .i64 0) from by simp)
     have rf1 := KRr.out.frozen 1
     have rc2 := (KRr.out.cell 2).trans (show _ = some (.int .i64 0) from by simp)
     have rf2 := KRr.out.frozen 2
     have rc3 := (KRr.out.cell 3).trans (show _ = some (.int .i64 0) from by simp)
     have rf3 := KRr.out.frozen 3
     have rc4 := (KRr.out.cell 4).trans (show _ = some (.int .i64 0) from by simp)
     have rf4 := KRr.out.frozen 4
     have rc5 := (KRr.out.cell 5).trans (show _ = some (.slice none 0 0) from by simp)
     have rf5 := KRr.out.frozen 5
     have rlt := KRr.out.lt
     go_wp2
     clear rc0 rf0 rc1 rf1 rc2 rf2 rc3 rf3 rc4 rf4 rc5 rf5 rlt
     refine bodyPost_ret (zAB rfl _ _ (w.heap.size + 1) 25 #[.int .i64 a.op, .int .i64 a.ct, .int .i64 a.n, .int .i64 a.m, .int .i64 a.va, .slice kA vs.length kcap] (0, 0) _ rfl (KRr.out.six _ _ _ _ _ _) Try.underlying25 rfl rfl) rfl ?_
     have hkp : Kept FF wr _ := zAM (w := wr) (H := w.heap.size + 1) (fun b hb => (HF3.out b hb).2.2) (.int .i64 a.op) (.int .i64 a.ct) (.int .i64 a.n) (.int .i64 a.m) (.int .i64 a.va) (.slice kA vs.length kcap)
     exact ⟨⟨a.op, a.ct, a.n, a.m, a.va, vs⟩, [.int .i64 a.op, .int .i64 a.ct, .int .i64 a.n, .int .i64 a.m, .int .i64 a.va, .slice kA vs.length kcap], FF, pq, m, rfl, PR.mono _ _ _ hkp HRP.out, fun b hb => ⟨by rw [zAN]; exact (HF3.out b hb).1, (HF3.out b hb).2.1⟩, by have := HSZ.out; omega, zB2 HRq.out (by omega) _ _ _ _ _ _, by omega, zAL HCw.out (by omega) _ _ _ _ _ _, hm0, by omega⟩
theorem l3Name_of (a : P) (ih : ∀ k ∈ a.ks, NameP k) : NameP a := by
 intro w p g n cs G hr hp hn0 hn1 hv hG hGg
 cases h5 : decide (n > 5) with
 |true => exact l3Name_top a ih w p g n cs G hr hp hn0 hn1 hv hG hGg h5
 |false =>
  cases q5 : (a.op == 5) with
  |true => exact l3Name_or a ih w p g n cs G hr hp hn0 hn1 hv hG hGg h5 q5
  |false =>
   cases q3 : (a.op == 3) with
   |true => exact l3Name_int a ih w p g n cs G hr hp hn0 hn1 hv hG hGg h5 q5 q3
   |false =>
    cases q1 : (a.op == 1) with
    |true => exact l3Name_any a ih w p g n cs G hr hp hn0 hn1 hv hG hGg h5 q5 q3 q1
    |false => exact l3Name_node a ih w p g n cs G hr hp hn0 hn1 hv hG hGg h5 q5 q3 q1
theorem spec_l3Name : ∀ a, NameP a := P.indv l3Name_of
theorem spec_l3Kids (op : Int) (h4 : ¬ op = 4) (w : World) : Calls Try.prog 157 #[.int .i64 op] w fun e w' => e = .returned (.int .i64 ((kidsN op : Nat) : Int)) ∧ w' = w := by
 have t4 : (op == 4) = false := by simpa using h4
 by_cases h5 : op = 5
 ·subst h5
  go_enter Try.func157, Try.ntmps157
  go_wp2
  go_ret
  exact ⟨rfl, rfl⟩
 ·have t5 : (op == 5) = false := by simpa using h5
  by_cases h6 : op = 6
  ·subst h6
   go_enter Try.func157, Try.ntmps157
   go_wp2
   go_ret
   exact ⟨rfl, rfl⟩
  ·have t6 : (op == 6) = false := by simpa using h6
   have hk : Hid (kidsN op = 0) := by unfold Hid kidsN; rw [if_neg h5, if_neg h6]
   go_enter Try.func157, Try.ntmps157
   go_wp2
   go_ret
   exact ⟨by rw [hk.out]; rfl, rfl⟩
theorem spec_l3Own (xs : List Dt) (hw : WorldOK xs) (t : Ty) (ht : TyIn xs.length t) (p : P) (w : World) (x : Value) (F : List Nat) (cs : List Value) (G : List Nat) : Arr w (DtR w) xs x F → Under w.heap.size F → PR w p cs G → Under w.heap.size G →
  Calls Try.prog 141 #[x, .agg #[.int .i64 t.d, .int .i64 t.i], .agg cs.toArray] w fun e w' => e = .returned (.bool (ownB xs t p)) ∧ Below w.heap.size w w' := by
 intro hx hf hv hg
 obtain ⟨kv, rfl, ha⟩ := (zA4 _ _ _).1 hv
 obtain ⟨A, cap, rfl, hc1, hc2⟩ := hx.form
 obtain ⟨A4, cap4, rfl, hc3, hc4⟩ := ha.form
 have HV := jj hv
 have HX := jj hx
 have HF := jj hf
 have HA := jj ha
 have HG := jj hg
 clear hx hf ha hg
 clear hv
 have HW := jj hw
 have HT := jj ht.inWorld
 clear hw ht HA HG HV
 obtain ⟨op, ct, n, m, va, ks⟩ := p
 simp only at hc3 hc4 ⊢
 have HB : Hid (Below w.heap.size w ((w.alloc (.cells #[.int .i64 t.d, .int .i64 t.i] 32)).alloc (.cells #[.int .i64 op, .int .i64 ct, .int .i64 n, .int .i64 m, .int .i64 va, .slice A4 ks.length cap4] 25))) := ((zy2 _ _).alloc (zz8 _) _).alloc (by simp) _
 by_cases o1 : op = 1
 ·subst o1
  by_cases v1 : va = 0
  ·have tv1 : (va != 0) = false := by simp [v1]
   by_cases n1 : n = 0
   ·have tn1 : (n != 0) = false := by simp [n1]
    by_cases m1 : m = 0
    ·have tm1 : (m != 0) = false := by simp [m1]
     by_cases c1 : ct = 0
     ·have tc1 : (ct != 0) = false := by simp [c1]
      have hf : Hid (ownB xs t ⟨1, ct, n, m, va, ks⟩ = true) := by unfold Hid ownB namedB kindB; simp [v1, n1, m1, c1]
      go_enter Try.func141, Try.ntmps141
      go_wp2
      go_ret
      exact ⟨by subst_vars; exact zA0 hf.out.symm, ((zy2 _ _).alloc (zz8 _) _).alloc (by simp) _⟩
     ·have tc1 : (ct != 0) = true := by simpa using c1
      have hf : Hid (ownB xs t ⟨1, ct, n, m, va, ks⟩ = false) := by unfold Hid ownB namedB kindB; simp [v1, n1, m1, c1]
      go_enter Try.func141, Try.ntmps141
      go_wp2
      go_ret
      exact ⟨by subst_vars; exact zA0 hf.out.symm, ((zy2 _ _).alloc (zz8 _) _).alloc (by simp) _⟩
    ·have tm1 : (m != 0) = true := by simpa using m1
     have hf : Hid (ownB xs t ⟨1, ct, n, m, va, ks⟩ = false) := by unfold Hid ownB namedB kindB; simp [v1, m1]
     go_enter Try.func141, Try.ntmps141
     go_wp2
     go_ret
     exact ⟨by subst_vars; exact zA0 hf.out.symm, ((zy2 _ _).alloc (zz8 _) _).alloc (by simp) _⟩
   ·have tn1 : (n != 0) = true := by simpa using n1
    have hf : Hid (ownB xs t ⟨1, ct, n, m, va, ks⟩ = false) := by unfold Hid ownB namedB kindB; simp [v1, n1]
    go_enter Try.func141, Try.ntmps141
    go_wp2
    go_ret
    exact ⟨by subst_vars; exact zA0 hf.out.symm, ((zy2 _ _).alloc (zz8 _) _).alloc (by simp) _⟩
  ·have tv1 : (va != 0) = true := by simpa using v1
   have hf : Hid (ownB xs t ⟨1, ct, n, m, va, ks⟩ = false) := by unfold Hid ownB namedB kindB; simp [v1]
   go_enter Try.func141, Try.ntmps141
   go_wp2
   go_ret
   exact ⟨by subst_vars; exact zA0 hf.out.symm, ((zy2 _ _).alloc (zz8 _) _).alloc (by simp) _⟩
 have u1 : (op == 1) = false := by simpa using o1
 by_cases o2 : op = 2
 ·subst o2
  by_cases v1 : va < 0
  ·have tv1 : (decide (va < 0)) = true := by simpa using v1
   have v1x : ¬ 0 ≤ va := by omega
   have hf : Hid (ownB xs t ⟨2, ct, n, m, va, ks⟩ = false) := by unfold Hid ownB namedB kindB; simp [v1x]
   go_enter Try.func141, Try.ntmps141
   go_wp2
   go_ret
   exact ⟨by subst_vars; exact zA0 hf.out.symm, ((zy2 _ _).alloc (zz8 _) _).alloc (by simp) _⟩
  ·have tv1 : (decide (va < 0)) = false := by simpa using v1
   by_cases v2 : 5 < va
   ·have tv2 : (decide (va > 5)) = true := by simpa using v2
    have v2x : ¬ va ≤ 5 := by omega
    have hf : Hid (ownB xs t ⟨2, ct, n, m, va, ks⟩ = false) := by unfold Hid ownB namedB kindB; simp [v2x]
    go_enter Try.func141, Try.ntmps141
    go_wp2
    go_ret
    exact ⟨by subst_vars; exact zA0 hf.out.symm, ((zy2 _ _).alloc (zz8 _) _).alloc (by simp) _⟩
   ·have tv2 : (decide (va > 5)) = false := by simpa using v2
    have v1x : 0 ≤ va := by omega
    have v2x : va ≤ 5 := by omega
    by_cases n1 : n = 0
    ·have tn1 : (n != 0) = false := by simp [n1]
     by_cases m1 : m = 0
     ·have tm1 : (m != 0) = false := by simp [m1]
      by_cases c1 : ct = 0
      ·have tc1 : (ct != 0) = false := by simp [c1]
       have hf : Hid (ownB xs t ⟨2, ct, n, m, va, ks⟩ = true) := by unfold Hid ownB namedB kindB; simp [v1x, v2x, n1, m1, c1]
       go_enter Try.func141, Try.ntmps141
       go_wp2
       go_ret
       exact ⟨by subst_vars; exact zA0 hf.out.symm, ((zy2 _ _).alloc (zz8 _) _).alloc (by simp) _⟩
      ·have tc1 : (ct != 0) = true := by simpa using c1
       have hf : Hid (ownB xs t ⟨2, ct, n, m, va, ks⟩ = false) := by unfold Hid ownB namedB kindB; simp [v1x, v2x, n1, m1, c1]
       go_enter Try.func141, Try.ntmps141
       go_wp2
       go_ret
       exact ⟨by subst_vars; exact zA0 hf.out.symm, ((zy2 _ _).alloc (zz8 _) _).alloc (by simp) _⟩
     ·have tm1 : (m != 0) = true := by simpa using m1
      have hf : Hid (ownB xs t ⟨2, ct, n, m, va, ks⟩ = false) := by unfold Hid ownB namedB kindB; simp [v1x, v2x, m1]
      go_enter Try.func141, Try.ntmps141
      go_wp2
      go_ret
      exact ⟨by subst_vars; exact zA0 hf.out.symm, ((zy2 _ _).alloc (zz8 _) _).alloc (by simp) _⟩
    ·have tn1 : (n != 0) = true := by simpa using n1
     have hf : Hid (ownB xs t ⟨2, ct, n, m, va, ks⟩ = false) := by unfold Hid ownB namedB kindB; simp [v1x, v2x, n1]
     go_enter Try.func141, Try.ntmps141
     go_wp2
     go_ret
     exact ⟨by subst_vars; exact zA0 hf.out.symm, ((zy2 _ _).alloc (zz8 _) _).alloc (by simp) _⟩
 have u2 : (op == 2) = false := by simpa using o2
 by_cases o3 : op = 3
 ·subst o3
  by_cases v1 : va = 0
  ·have tv1 : (va != 0) = false := by simp [v1]
   by_cases c1 : ct = 0
   ·have tc1 : (ct != 0) = false := by simp [c1]
    by_cases a0 : t.d = -1
    ·have b0 : (t.d == -1) = true := by simp [a0]
     by_cases a1 : 0 ≤ n
     ·have b1 : decide (n ≥ 0) = true := by simpa using a1
      by_cases a2 : n ≤ m
      ·have b2 : decide (n ≤ m) = true := by simpa using a2
       by_cases a3 : m ≤ 9
       ·have b3 : decide (m ≤ 9) = true := by simpa using a3
        have hf : Hid (ownB xs t ⟨3, ct, n, m, va, ks⟩ = true) := by unfold Hid ownB namedB kindB; simp [v1, c1, a0, a1, a2, a3]
        go_enter Try.func141, Try.ntmps141
        go_wp2
        go_ret
        exact ⟨by subst_vars; exact zA0 hf.out.symm, ((zy2 _ _).alloc (zz8 _) _).alloc (by simp) _⟩
       ·have b3 : decide (m ≤ 9) = false := by simpa using a3
        have hf : Hid (ownB xs t ⟨3, ct, n, m, va, ks⟩ = false) := by unfold Hid ownB namedB kindB; simp [v1, c1, a0, a1, a2, a3]
        go_enter Try.func141, Try.ntmps141
        go_wp2
        go_ret
        exact ⟨by subst_vars; exact zA0 hf.out.symm, ((zy2 _ _).alloc (zz8 _) _).alloc (by simp) _⟩
      ·have b2 : decide (n ≤ m) = false := by simpa using a2
       have hf : Hid (ownB xs t ⟨3, ct, n, m, va, ks⟩ = false) := by unfold Hid ownB namedB kindB; simp [v1, c1, a2]
       go_enter Try.func141, Try.ntmps141
       go_wp2
       go_ret
       exact ⟨by subst_vars; exact zA0 hf.out.symm, ((zy2 _ _).alloc (zz8 _) _).alloc (by simp) _⟩
     ·have b1 : decide (n ≥ 0) = false := by simpa using a1
      have hf : Hid (ownB xs t ⟨3, ct, n, m, va, ks⟩ = false) := by unfold Hid ownB namedB kindB; simp [v1, c1, a1]
      go_enter Try.func141, Try.ntmps141
      go_wp2
      go_ret
      exact ⟨by subst_vars; exact zA0 hf.out.symm, ((zy2 _ _).alloc (zz8 _) _).alloc (by simp) _⟩
    ·have b0 : (t.d == -1) = false := by simpa using a0
     have hf : Hid (ownB xs t ⟨3, ct, n, m, va, ks⟩ = false) := by unfold Hid ownB namedB kindB; simp [v1, c1, a0]
     go_enter Try.func141, Try.ntmps141
     go_wp2
     go_ret
     exact ⟨by subst_vars; exact zA0 hf.out.symm, ((zy2 _ _).alloc (zz8 _) _).alloc (by simp) _⟩
   ·have tc1 : (ct != 0) = true := by simpa using c1
    have hf : Hid (ownB xs t ⟨3, ct, n, m, va, ks⟩ = false) := by unfold Hid ownB namedB kindB; simp [v1, c1]
    go_enter Try.func141, Try.ntmps141
    go_wp2
    go_ret
    exact ⟨by subst_vars; exact zA0 hf.out.symm, ((zy2 _ _).alloc (zz8 _) _).alloc (by simp) _⟩
  ·have tv1 : (va != 0) = true := by simpa using v1
   have hf : Hid (ownB xs t ⟨3, ct, n, m, va, ks⟩ = false) := by unfold Hid ownB namedB kindB; simp [v1]
   go_enter Try.func141, Try.ntmps141
   go_wp2
   go_ret
   exact ⟨by subst_vars; exact zA0 hf.out.symm, ((zy2 _ _).alloc (zz8 _) _).alloc (by simp) _⟩
 have u3 : (op == 3) = false := by simpa using o3
 by_cases o4 : op = 4
 ·subst o4
  by_cases v1 : va = 0
  ·have tv1 : (va != 0) = false := by simp [v1]
   by_cases n1 : n = 0
   ·have tn1 : (n != 0) = false := by simp [n1]
    by_cases m1 : m = 0
    ·have tm1 : (m != 0) = false := by simp [m1]
     have hf : Hid (ownB xs t ⟨4, ct, n, m, va, ks⟩ = hasB (ctorsL xs t) ct) := by unfold Hid ownB namedB kindB; simp [v1, n1, m1]
     subst_vars
     go_enter Try.func141, Try.ntmps141
     go_wp2_with fail
     obtain ⟨W2, hW2⟩ : ∃ W2, W2 = ((w.alloc (.cells #[.int .i64 t.d, .int .i64 t.i] 32)).alloc (.cells #[.int .i64 4, .int .i64 ct, .int .i64 0, .int .i64 0, .int .i64 0, .slice A4 ks.length cap4] 25)) := ⟨_, rfl⟩
     rw [← hW2] at HB
     have KT : Hid (Blk W2 w.heap.size 32 #[.int .i64 t.d, .int .i64 t.i]) := by rw [hW2]; exact (Blk.new w _ _).same (Below.heap_alloc _ _ _ (by simp))
     have KP : Hid (Blk W2 (w.heap.size + 1) 25 #[.int .i64 4, .int .i64 ct, .int .i64 0, .int .i64 0, .int .i64 0, .slice A4 ks.length cap4]) := by rw [hW2]; have h := Blk.new (w.alloc (.cells #[.int .i64 t.d, .int .i64 t.i] 32)) 25 #[.int .i64 4, .int .i64 ct, .int .i64 0, .int .i64 0, .int .i64 0, .slice A4 ks.length cap4]; rw [World.size_alloc] at h; exact h
     rw [← hW2]
     clear hW2
     have y0 : W2.cell? ⟨w.heap.size, 0, none⟩ = some (.int .i64 t.d) := (KT.out.cell 0).trans (by simp)
     have y1 : W2.cell? ⟨w.heap.size, 1, none⟩ = some (.int .i64 t.i) := (KT.out.cell 1).trans (by simp)
     have klt := KT.out.lt
     have z1 : W2.cell? ⟨w.heap.size + 1, 1, none⟩ = some (.int .i64 ct) := (KP.out.cell 1).trans (by simp)
     have klt2 := KP.out.lt
     have hB0 := HB.out
     have hkeep : ∀ U U' : World, (U.cell? ⟨w.heap.size, 0, none⟩ = some (.int .i64 t.d) ∧ U.cell? ⟨w.heap.size, 1, none⟩ = some (.int .i64 t.i) ∧ U.cell? ⟨w.heap.size + 1, 1, none⟩ = some (.int .i64 ct)) → Below U.heap.size U U' → W2.heap.size ≤ U.heap.size → (U'.cell? ⟨w.heap.size, 0, none⟩ = some (.int .i64 t.d) ∧ U'.cell? ⟨w.heap.size, 1, none⟩ = some (.int .i64 t.i) ∧ U'.cell? ⟨w.heap.size + 1, 1, none⟩ = some (.int .i64 ct)) := fun U U' h hUU hU => ⟨(hUU.cell (zz9 (klt) hU)).trans h.1, (hUU.cell (zz9 (klt) hU)).trans h.2.1, (hUU.cell (zz9 (klt2) hU)).trans h.2.2⟩
     have HKeep := jj hkeep
     clear hkeep
     go_region_held3 (fun w' => w'.cell? ⟨w.heap.size, 0, none⟩ = some (.int .i64 t.d) ∧ w'.cell? ⟨w.heap.size, 1, none⟩ = some (.int .i64 t.i) ∧ w'.cell? ⟨w.heap.size + 1, 1, none⟩ = some (.int .i64 ct)) (first | assumption | (exact ⟨y0, y1, z1⟩) | (exact HKeep.out W2.drew w4 ⟨y0, y1, z1⟩ hb4 (zz8 _)) | (exact HKeep.out w4 w5 (by assumption) hb5 hlew4)) (first | (go_at_call 108; ((with_reducible refine (spec_l1Ctors xs t _ _ F (ArrDt.below HX.out hB0.drew HF.out) (HF.out.mono hB0.drew.size) HW.out HT.out).mono ?_); rintro e w4 ⟨v4, F4, rfl, hb4, ha4, -, hfs4⟩); have hlew4 : W2.heap.size ≤ w4.heap.size := hb4.size) | (go_at_call 154; ((with_reducible refine (spec_l1Has (ctorsL xs t) ct _ _ F4 ha4 hfs4.under).mono ?_); rintro e w5 ⟨rfl, hb5⟩)))
     have hBa := hB0.drew.trans (hb4.mono hB0.drew.size)
     have hB5 := hBa.trans (hb5.mono hBa.size)
     generalize hasB (ctorsL xs t) ct = r at *
     clear HKeep ha4 hfs4 hb4 hb5 hBa hB0 HB KT KP y0 y1 z1 klt klt2
     go_wp2
     go_ret
     exact ⟨zA0 hf.out.symm, hB5⟩
    ·have tm1 : (m != 0) = true := by simpa using m1
     have hf : Hid (ownB xs t ⟨4, ct, n, m, va, ks⟩ = false) := by unfold Hid ownB namedB kindB; simp [v1, m1]
     go_enter Try.func141, Try.ntmps141
     go_wp2
     go_ret
     exact ⟨by subst_vars; exact zA0 hf.out.symm, ((zy2 _ _).alloc (zz8 _) _).alloc (by simp) _⟩
   ·have tn1 : (n != 0) = true := by simpa using n1
    have hf : Hid (ownB xs t ⟨4, ct, n, m, va, ks⟩ = false) := by unfold Hid ownB namedB kindB; simp [v1, n1]
    go_enter Try.func141, Try.ntmps141
    go_wp2
    go_ret
    exact ⟨by subst_vars; exact zA0 hf.out.symm, ((zy2 _ _).alloc (zz8 _) _).alloc (by simp) _⟩
  ·have tv1 : (va != 0) = true := by simpa using v1
   have hf : Hid (ownB xs t ⟨4, ct, n, m, va, ks⟩ = false) := by unfold Hid ownB namedB kindB; simp [v1]
   go_enter Try.func141, Try.ntmps141
   go_wp2
   go_ret
   exact ⟨by subst_vars; exact zA0 hf.out.symm, ((zy2 _ _).alloc (zz8 _) _).alloc (by simp) _⟩
 have u4 : (op == 4) = false := by simpa using o4
 by_cases o5 : op = 5
 ·subst o5
  by_cases v1 : va = 0
  ·have tv1 : (va != 0) = false := by simp [v1]
   by_cases n1 : n = 0
   ·have tn1 : (n != 0) = false := by simp [n1]
    by_cases m1 : m = 0
    ·have tm1 : (m != 0) = false := by simp [m1]
     by_cases c1 : ct = 0
     ·have tc1 : (ct != 0) = false := by simp [c1]
      have hf : Hid (ownB xs t ⟨5, ct, n, m, va, ks⟩ = true) := by unfold Hid ownB namedB kindB; simp [v1, n1, m1, c1]
      go_enter Try.func141, Try.ntmps141
      go_wp2
      go_ret
      exact ⟨by subst_vars; exact zA0 hf.out.symm, ((zy2 _ _).alloc (zz8 _) _).alloc (by simp) _⟩
     ·have tc1 : (ct != 0) = true := by simpa using c1
      have hf : Hid (ownB xs t ⟨5, ct, n, m, va, ks⟩ = false) := by unfold Hid ownB namedB kindB; simp [v1, n1, m1, c1]
      go_enter Try.func141, Try.ntmps141
      go_wp2
      go_ret
      exact ⟨by subst_vars; exact zA0 hf.out.symm, ((zy2 _ _).alloc (zz8 _) _).alloc (by simp) _⟩
    ·have tm1 : (m != 0) = true := by simpa using m1
     have hf : Hid (ownB xs t ⟨5, ct, n, m, va, ks⟩ = false) := by unfold Hid ownB namedB kindB; simp [v1, m1]
     go_enter Try.func141, Try.ntmps141
     go_wp2
     go_ret
     exact ⟨by subst_vars; exact zA0 hf.out.symm, ((zy2 _ _).alloc (zz8 _) _).alloc (by simp) _⟩
   ·have tn1 : (n != 0) = true := by simpa using n1
    have hf : Hid (ownB xs t ⟨5, ct, n, m, va, ks⟩ = false) := by unfold Hid ownB namedB kindB; simp [v1, n1]
    go_enter Try.func141, Try.ntmps141
    go_wp2
    go_ret
    exact ⟨by subst_vars; exact zA0 hf.out.symm, ((zy2 _ _).alloc (zz8 _) _).alloc (by simp) _⟩
  ·have tv1 : (va != 0) = true := by simpa using v1
   have hf : Hid (ownB xs t ⟨5, ct, n, m, va, ks⟩ = false) := by unfold Hid ownB namedB kindB; simp [v1]
   go_enter Try.func141, Try.ntmps141
   go_wp2
   go_ret
   exact ⟨by subst_vars; exact zA0 hf.out.symm, ((zy2 _ _).alloc (zz8 _) _).alloc (by simp) _⟩
 have u5 : (op == 5) = false := by simpa using o5
 by_cases o6 : op = 6
 ·subst o6
  by_cases v1 : va < 0
  ·have tv1 : (decide (va < 0)) = true := by simpa using v1
   have v1x : ¬ 0 ≤ va := by omega
   have hf : Hid (ownB xs t ⟨6, ct, n, m, va, ks⟩ = false) := by unfold Hid ownB namedB kindB; simp [v1x]
   go_enter Try.func141, Try.ntmps141
   go_wp2
   go_ret
   exact ⟨by subst_vars; exact zA0 hf.out.symm, ((zy2 _ _).alloc (zz8 _) _).alloc (by simp) _⟩
  ·have tv1 : (decide (va < 0)) = false := by simpa using v1
   by_cases v2 : 5 < va
   ·have tv2 : (decide (va > 5)) = true := by simpa using v2
    have v2x : ¬ va ≤ 5 := by omega
    have hf : Hid (ownB xs t ⟨6, ct, n, m, va, ks⟩ = false) := by unfold Hid ownB namedB kindB; simp [v2x]
    go_enter Try.func141, Try.ntmps141
    go_wp2
    go_ret
    exact ⟨by subst_vars; exact zA0 hf.out.symm, ((zy2 _ _).alloc (zz8 _) _).alloc (by simp) _⟩
   ·have tv2 : (decide (va > 5)) = false := by simpa using v2
    have v1x : 0 ≤ va := by omega
    have v2x : va ≤ 5 := by omega
    by_cases n1 : n = 0
    ·have tn1 : (n != 0) = false := by simp [n1]
     by_cases m1 : m = 0
     ·have tm1 : (m != 0) = false := by simp [m1]
      by_cases c1 : ct = 0
      ·have tc1 : (ct != 0) = false := by simp [c1]
       have hf : Hid (ownB xs t ⟨6, ct, n, m, va, ks⟩ = true) := by unfold Hid ownB namedB kindB; simp [v1x, v2x, n1, m1, c1]
       go_enter Try.func141, Try.ntmps141
       go_wp2
       go_ret
       exact ⟨by subst_vars; exact zA0 hf.out.symm, ((zy2 _ _).alloc (zz8 _) _).alloc (by simp) _⟩
      ·have tc1 : (ct != 0) = true := by simpa using c1
       have hf : Hid (ownB xs t ⟨6, ct, n, m, va, ks⟩ = false) := by unfold Hid ownB namedB kindB; simp [v1x, v2x, n1, m1, c1]
       go_enter Try.func141, Try.ntmps141
       go_wp2
       go_ret
       exact ⟨by subst_vars; exact zA0 hf.out.symm, ((zy2 _ _).alloc (zz8 _) _).alloc (by simp) _⟩
     ·have tm1 : (m != 0) = true := by simpa using m1
      have hf : Hid (ownB xs t ⟨6, ct, n, m, va, ks⟩ = false) := by unfold Hid ownB namedB kindB; simp [v1x, v2x, m1]
      go_enter Try.func141, Try.ntmps141
      go_wp2
      go_ret
      exact ⟨by subst_vars; exact zA0 hf.out.symm, ((zy2 _ _).alloc (zz8 _) _).alloc (by simp) _⟩
    ·have tn1 : (n != 0) = true := by simpa using n1
     have hf : Hid (ownB xs t ⟨6, ct, n, m, va, ks⟩ = false) := by unfold Hid ownB namedB kindB; simp [v1x, v2x, n1]
     go_enter Try.func141, Try.ntmps141
     go_wp2
     go_ret
     exact ⟨by subst_vars; exact zA0 hf.out.symm, ((zy2 _ _).alloc (zz8 _) _).alloc (by simp) _⟩
 have u6 : (op == 6) = false := by simpa using o6
 have un3 : (op != 3) = true := by simpa using o3
 have un4 : (op != 4) = true := by simpa using o4
 by_cases v1 : va = 0
 ·have tv1 : (va != 0) = false := by simp [v1]
  by_cases n1 : n = 0
  ·have tn1 : (n != 0) = false := by simp [n1]
   by_cases m1 : m = 0
   ·have tm1 : (m != 0) = false := by simp [m1]
    by_cases c1 : ct = 0
    ·have tc1 : (ct != 0) = false := by simp [c1]
     have hf : Hid (ownB xs t ⟨op, ct, n, m, va, ks⟩ = false) := by unfold Hid ownB namedB kindB; simp [o1, o2, o3, o4, o5, o6, v1, n1, m1, c1]
     go_enter Try.func141, Try.ntmps141
     go_wp2
     go_ret
     exact ⟨by subst_vars; exact zA0 hf.out.symm, ((zy2 _ _).alloc (zz8 _) _).alloc (by simp) _⟩
    ·have tc1 : (ct != 0) = true := by simpa using c1
     have hf : Hid (ownB xs t ⟨op, ct, n, m, va, ks⟩ = false) := by unfold Hid ownB namedB kindB; simp [o1, o2, o3, o4, o5, o6, v1, n1, m1, c1]
     go_enter Try.func141, Try.ntmps141
     go_wp2
     go_ret
     exact ⟨by subst_vars; exact zA0 hf.out.symm, ((zy2 _ _).alloc (zz8 _) _).alloc (by simp) _⟩
   ·have tm1 : (m != 0) = true := by simpa using m1
    have hf : Hid (ownB xs t ⟨op, ct, n, m, va, ks⟩ = false) := by unfold Hid ownB namedB kindB; simp [o1, o2, o3, o4, o5, o6, v1, m1]
    go_enter Try.func141, Try.ntmps141
    go_wp2
    go_ret
    exact ⟨by subst_vars; exact zA0 hf.out.symm, ((zy2 _ _).alloc (zz8 _) _).alloc (by simp) _⟩
  ·have tn1 : (n != 0) = true := by simpa using n1
   have hf : Hid (ownB xs t ⟨op, ct, n, m, va, ks⟩ = false) := by unfold Hid ownB namedB kindB; simp [o1, o2, o3, o4, o5, o6, v1, n1]
   go_enter Try.func141, Try.ntmps141
   go_wp2
   go_ret
   exact ⟨by subst_vars; exact zA0 hf.out.symm, ((zy2 _ _).alloc (zz8 _) _).alloc (by simp) _⟩
 ·have tv1 : (va != 0) = true := by simpa using v1
  have hf : Hid (ownB xs t ⟨op, ct, n, m, va, ks⟩ = false) := by unfold Hid ownB namedB kindB; simp [o1, o2, o3, o4, o5, o6, v1]
  go_enter Try.func141, Try.ntmps141
  go_wp2
  go_ret
  exact ⟨by subst_vars; exact zA0 hf.out.symm, ((zy2 _ _).alloc (zz8 _) _).alloc (by simp) _⟩
def repTo (t : Ty) (i : Nat) : List Ty := List.replicate i t
theorem repTo_len (t : Ty) (i : Nat) : (repTo t i).length = i := List.length_replicate
theorem repTo_succ (t : Ty) (i : Nat) : repTo t (i + 1) = repTo t i ++ [t] := List.replicate_succ'
theorem kidsN_le (op : Int) : kidsN op ≤ 2 := by unfold kidsN; split; omega; split <;> omega
theorem zB6 {xs : List Dt} {t : Ty} {p : P} (h : ¬ p.op = 4) : typesP xs t p = repTo t (kidsN p.op) := by unfold typesP; rw [if_neg h]; rfl
theorem ownB_ctor {xs : List Dt} {t : Ty} {p : P} (h : p.op = 4) (ho : ownB xs t p = true) : p.ct ∈ ctorsL xs t := by
 unfold ownB kindB at ho
 simp only [Bool.and_eq_true] at ho
 have h2 := ho.2.2.2
 rw [if_neg (by omega), if_pos h] at h2
 exact (hasB_iff _ _).1 h2
theorem spec_l3Types (xs : List Dt) (hw : WorldOK xs) (t : Ty) (ht : TyIn xs.length t) (p : P) (ho : ownB xs t p = true) (w : World) (x : Value) (F : List Nat) (cs : List Value) (G : List Nat) : Arr w (DtR w) xs x F → Under w.heap.size F → PR w p cs G → Under w.heap.size G →
  Calls Try.prog 130 #[x, .agg #[.int .i64 t.d, .int .i64 t.i], .agg cs.toArray] w (MadeArr TyR w (typesP xs t p)) := by
 intro hx hf hv hg
 obtain ⟨kv, rfl, ha⟩ := (zA4 _ _ _).1 hv
 obtain ⟨A, cap, rfl, hc1, hc2⟩ := hx.form
 obtain ⟨A4, cap4, rfl, hc3, hc4⟩ := ha.form
 have HV := jj hv
 have HX := jj hx
 have HF := jj hf
 have HA := jj ha
 have HG := jj hg
 clear hx hf ha hg
 clear hv
 by_cases h4 : p.op = 4
 ·have t4 : (p.op == 4) = true := by simp [h4]
  obtain ⟨q, k, e2, hvc, hq', hkl⟩ := zB4 (xs := xs) (t := t) ht.inWorld (ownB_ctor h4 ho)
  have hty : typesP xs t p = argsL xs[q].ctors[k] t.i := by
   unfold typesP
   rw [if_pos h4, hvc]
   obtain ⟨td, ti⟩ := t
   simp only at e2
   subst e2
   exact zB8 hq' hkl
  have HTY := jj hty
  have HVC := jj hvc
  have HE2 := jj e2
  have HLA := jj (hw.ctor hq' hkl).args
  clear hty hvc e2 h4 ho hw ht
  go_enter Try.func130, Try.ntmps130
  go_wp2_with fail
  obtain ⟨W2, hW2⟩ : ∃ W2, W2 = ((w.alloc (.cells #[.int .i64 t.d, .int .i64 t.i] 32)).alloc (.cells #[.int .i64 p.op, .int .i64 p.ct, .int .i64 p.n, .int .i64 p.m, .int .i64 p.va, .slice A4 p.ks.length cap4] 25)) := ⟨_, rfl⟩
  have hB0 : Below w.heap.size w W2 := by rw [hW2]; exact ((zy2 _ _).alloc (zz8 _) _).alloc (by simp) _
  have KT : Hid (Blk W2 w.heap.size 32 #[.int .i64 t.d, .int .i64 t.i]) := by rw [hW2]; exact (Blk.new w _ _).same (Below.heap_alloc _ _ _ (by simp))
  have KP : Hid (Blk W2 (w.heap.size + 1) 25 #[.int .i64 p.op, .int .i64 p.ct, .int .i64 p.n, .int .i64 p.m, .int .i64 p.va, .slice A4 p.ks.length cap4]) := by rw [hW2]; have h := Blk.new (w.alloc (.cells #[.int .i64 t.d, .int .i64 t.i] 32)) 25 #[.int .i64 p.op, .int .i64 p.ct, .int .i64 p.n, .int .i64 p.m, .int .i64 p.va, .slice A4 p.ks.length cap4]; rw [World.size_alloc] at h; exact h
  have hws : w.heap.size + 2 ≤ W2.heap.size := by rw [hW2]; simp
  have hws2 : W2.heap.size = w.heap.size + 1 + 1 := by rw [hW2]; simp
  rw [← hW2]
  clear hW2
  have y0 : W2.cell? ⟨w.heap.size, 0, none⟩ = some (.int .i64 t.d) := (KT.out.cell 0).trans (by simp)
  have y1 : W2.cell? ⟨w.heap.size, 1, none⟩ = some (.int .i64 t.i) := (KT.out.cell 1).trans (by simp)
  have klt := KT.out.lt
  have z0 : W2.cell? ⟨w.heap.size + 1, 0, none⟩ = some (.int .i64 p.op) := (KP.out.cell 0).trans (by simp)
  have z1 : W2.cell? ⟨w.heap.size + 1, 1, none⟩ = some (.int .i64 p.ct) := (KP.out.cell 1).trans (by simp)
  have klt2 := KP.out.lt
  go_wp2_with fail
  rw [HVC.out, HE2.out]
  refine (spec_l1Args xs q k t.i hq' hkl W2 _ F (ArrDt.below HX.out hB0 HF.out) (HF.out.mono hB0.size) HLA.out).mono ?_
  rintro e w6 ⟨v6, F6, rfl, hb6, ha6, hfr6, hfs6⟩
  have hfin : MadeArr TyR w (typesP xs t p) (.returned v6) w6 := ⟨v6, F6, rfl, hB0.trans (hb6.mono hB0.size), by rw [HTY.out]; exact ha6, hfr6, fun b hb => ⟨Nat.le_trans hB0.size (hfs6 b hb).1, (hfs6 b hb).2⟩⟩
  have HFin := jj hfin
  clear hfin ha6 hfr6 hfs6 hb6 y0 y1 z0 z1 klt klt2 t4
  go_wp2
  go_ret
  exact HFin.out
 ·have t4 : (p.op == 4) = false := by simpa using h4
  obtain ⟨i0, hi, hz0, hz1, hz2⟩ := info_parts info_tyE
  have HI := jj hi
  have HZ0 := jj hz0
  have HZ1 := jj hz1
  have HZ2 := jj hz2
  clear hi hz0 hz1 hz2
  have HTY := jj (zB6 (xs := xs) (t := t) h4)
  have H4 := jj h4
  have hk2 := kidsN_le p.op
  generalize hkn : kidsN p.op = kn at *
  have HKN := jj hkn
  clear h4 ho hw ht hkn
  have hws9 : (((w.alloc (.cells #[.int .i64 t.d, .int .i64 t.i] 32)).alloc (.cells #[.int .i64 p.op, .int .i64 p.ct, .int .i64 p.n, .int .i64 p.m, .int .i64 p.va, .slice A4 p.ks.length cap4] 25)).alloc (.cells #[] 32)).heap.size = w.heap.size + 3 := by simp
  go_enter Try.func130, Try.ntmps130
  go_wp2
  obtain ⟨w9, hw9⟩ : ∃ w9, w9 = ((w.alloc (.cells #[.int .i64 t.d, .int .i64 t.i] 32)).alloc (.cells #[.int .i64 p.op, .int .i64 p.ct, .int .i64 p.n, .int .i64 p.m, .int .i64 p.va, .slice A4 p.ks.length cap4] 25)).alloc (.cells #[] 32) := ⟨_, rfl⟩
  have hB0 : Below w.heap.size w w9 := by rw [hw9]; exact (((zy2 _ _).alloc (zz8 _) _).alloc (by simp) _).alloc (by simp; omega) _
  have KT : Hid (Blk w9 w.heap.size 32 #[.int .i64 t.d, .int .i64 t.i]) := by rw [hw9]; exact ((Blk.new w _ _).same (Below.heap_alloc _ _ _ (by simp))).same (Below.heap_alloc _ _ _ (by simp; omega))
  have KP : Hid (Blk w9 (w.heap.size + 1) 25 #[.int .i64 p.op, .int .i64 p.ct, .int .i64 p.n, .int .i64 p.m, .int .i64 p.va, .slice A4 p.ks.length cap4]) := by rw [hw9]; have h := Blk.new (w.alloc (.cells #[.int .i64 t.d, .int .i64 t.i] 32)) 25 #[.int .i64 p.op, .int .i64 p.ct, .int .i64 p.n, .int .i64 p.m, .int .i64 p.va, .slice A4 p.ks.length cap4]; rw [World.size_alloc] at h; exact h.same (Below.heap_alloc _ _ _ (by simp))
  have HO : Hid (Own w9 (w.heap.size + 2) 32 2 TyR (repTo t 0) (.slice (some ⟨w.heap.size + 2, 0, none⟩) 0 0) []) := by
   rw [hw9]
   have h := Own.made ((w.alloc (.cells #[.int .i64 t.d, .int .i64 t.i] 32)).alloc (.cells #[.int .i64 p.op, .int .i64 p.ct, .int .i64 p.n, .int .i64 p.m, .int .i64 p.va, .slice A4 p.ks.length cap4] 25)) (w.heap.size + 2) 32 2 TyR #[] 0 (by simp) (by simp [maxLen]) rfl
   rw [show ((w.alloc (.cells #[.int .i64 t.d, .int .i64 t.i] 32)).alloc (.cells #[.int .i64 p.op, .int .i64 p.ct, .int .i64 p.n, .int .i64 p.m, .int .i64 p.va, .slice A4 p.ks.length cap4] 25)).heap.size = w.heap.size + 2 from by simp] at h
   exact h
  rw [← hw9] at hws9 ⊢
  clear hw9
  go_loopw [7, 8] (fun ov iv wr => ∃ i : Nat, i ≤ kn ∧ iv = .int .i64 i ∧ Hid (Own wr (w.heap.size + 2) 32 2 TyR (repTo t i) ov []) ∧ Hid (Blk wr w.heap.size 32 #[.int .i64 t.d, .int .i64 t.i]) ∧ Hid (Blk wr (w.heap.size + 1) 25 #[.int .i64 p.op, .int .i64 p.ct, .int .i64 p.n, .int .i64 p.m, .int .i64 p.va, .slice A4 p.ks.length cap4]) ∧ Below w.heap.size w wr ∧ w.heap.size + 2 ≤ wr.heap.size) (fun _ iv _ => kn - (intOf iv).toNat)
  case atStart => exact ⟨0, Nat.zero_le _, rfl, HO, KT, KP, hB0, by omega⟩
  case round =>
   clear hB0 KT KP HO hws9
   obtain ⟨i, hi, rfl, HO, KT, KP, hB, hsz⟩ := hrel
   obtain ⟨kA, kcap, hkv, hkc1, hkc2⟩ := HO.out.form
   subst hkv
   have y0 : wr.cell? ⟨w.heap.size, 0, none⟩ = some (.int .i64 t.d) := (KT.out.cell 0).trans (by simp)
   have y1 : wr.cell? ⟨w.heap.size, 1, none⟩ = some (.int .i64 t.i) := (KT.out.cell 1).trans (by simp)
   have klt := KT.out.lt
   have z0 : wr.cell? ⟨w.heap.size + 1, 0, none⟩ = some (.int .i64 p.op) := (KP.out.cell 0).trans (by simp)
   have klt2 := KP.out.lt
   have HRL := jj (repTo_len t i)
   go_wp2_with fail
   refine (spec_l3Kids p.op H4.out wr).mono ?_
   rintro e w' ⟨rfl, hw'⟩
   rw [hw', HKN.out]
   clear hw' w'
   by_cases hil : i < kn
   ·have t1 : decide ((i : Int) < (kn : Int)) = true := by simp; omega
    have hB1 : Below wr.heap.size wr wr := zy2 _ _
    have HF2 := jj (repTo_succ t i)
    go_wp2_with (at_builtin; refine Halt.mk ?_)
    refine Halt.of (zA3 (P := Try.prog) rfl _ _ 136 rfl i0 _ 16 Try.underlying136 HI.out HZ0.out HZ1.out HZ2.out rfl (by decide) TyR_len' TyR_mono' (by rfl) HO.out t 32 [.int .i64 t.d, .int .i64 t.i] [] wr.heap.size (by rfl) rfl (by simp [Value.oneCell']) ⟨rfl, rfl⟩ (Under.nil _) (fun _ _ h => by cases h) (by have := HRL.out; unfold maxLen; omega) (by have := HRL.out; omega) hsz ?_)
    intro g cp w3 hown3 hgr3 hat3
    have hrow := HO.out.row
    have hba : Below wr.heap.size wr (wr.alloc (.cells #[.int .i64 t.d, .int .i64 t.i] 32)) := (zy2 _ _).alloc (zz8 _) _
    have hB3 : Below (w.heap.size + 2) wr w3 := (hba.mono hsz).grown hgr3 (by simp; omega) (fun g hg => (hrow g (zA2.2 hg)).1)
    have HO3 := jj hown3
    have KT3 := jj (KT.out.same (hB3.block _ (by omega)))
    have KP3 := jj (KP.out.same (hB3.block _ (by omega)))
    have hB4 := hB.trans (hB3.mono (by omega))
    have hsz4 := Nat.le_trans hsz hB3.size
    clear hrow hba hB3 hown3 hgr3 hat3 y0 y1 z0 klt klt2
    go_wp2
    go_roundw
    case rel => exact ⟨i + 1, by omega, by go_num, by rw [HF2.out]; exact HO3.out, KT3, KP3, hB4, hsz4⟩
    case measure => (simp [intOf] <;> omega)
   ·have t1 : decide ((i : Int) < (kn : Int)) = false := by simp; omega
    obtain rfl : i = kn := by omega
    have HFin : Hid (MadeArr TyR w (typesP xs t p) (.returned (.slice kA (repTo t i).length kcap)) wr) := by rw [HTY.out]; exact Own.gives HO.out hB (by omega) (fun b hb => by cases hb) (Free.nil _)
    go_wp2
    go_ret
    exact HFin.out
end Go.Proofs.Ytilndhmegaccmaa
