/-
  Lemmas and contracts of functions: WorldValid of the program, with its two maps. Conditions: none. TypeValid of the reference and of the program. Conditions: none. l1Ctors of the reference, and CtorsOf of both. Conditions: none for CtorsOf. A number in a list: slices.Contains and l1Has. Conditions: none. ArgTypes of the reference and of the program. Conditions: none. Least depths of values, in plain Lean: sweeps over a table reach a fixed point after ls many sweeps ls there are entries and one more. Conditions: the world is valid. Values of a type, in plain Lean; a value in a list. Conditions: none. All values of a type up to a depth, in plain Lean; how many there are; lists cut off. Conditions: none. Sweeps over a table of least depths reach a fixed point: as many as there are entries and one more are enough. Conditions: the world is valid. The constructors that can make values of a type, in plain Lean. Conditions: none. Least depths in plain Lean: the least depth of a type is that of a constructor; any index is no deeper than a given one. Conditions: the world is valid. Least values, in plain Lean. Conditions: the world is valid. Contracts of the two functions DepthOf. Conditions: at most 1048576 parts. Contracts of the two functions CompareValues and of what they call. Conditions: none. ValueSame of the reference: equality of Values. Conditions: none. The values of a type up to a depth: they are its values, all of them, in order, and those of less depth are among them. Conditions: the world is valid. A node of a tree under construction: its cells lie in a block, its kids are appended one by one. Conditions: none.
-/
import Derived.Test.YtilndhmegaccmaaKAC
import Derived.Test.YtilndhmegaccmaaKAD
import Derived.Maps.Own
import Derived.Maps.OwnOps
import Derived.StringKeys
import Derived.Deep.RegionWith
import Derived.Test.YtilndhmegaccmaaKAA
import Derived.Deep.RegionHeld3
import Derived.Test.YtilndhmegaccmaaChecked
import Derived.Deep.QuietTactic
import Derived.BigQuiet
import Derived.IntWalk

set_option linter.unusedVariables false
set_option linter.unusedSimpArgs false

namespace Go.Proofs.Ytilndhmegaccmaa
open Go.RowKit

open Go.Maps
def strLit (s : ByteArray) : Lit := .string s.data.toList
theorem strLit_same (a b : ByteArray) : (strLit a).sameKey (strLit b) = (a.toList == b.toList) := by
  rw [ByteArray.toList_eq, ByteArray.toList_eq]; rfl
theorem any_same (names : List ByteArray) (s : ByteArray) : ((names.map strLit).any fun x => x.sameKey (strLit s)) = nameIn names s := by
  induction names with
  | nil => rfl
  | cons x xs ih => rw [List.map_cons, List.any_cons, ih, strLit_same]; rfl
theorem isKey_str (s : ByteArray) : WideAt.IsKeyLit (strLit s) := trivial
theorem atKey_setOf {H : Type} (u z : DataW H) (k : Lit) (acc : List Lit) (ha : ∀ x ∈ acc, WideAt.IsKeyLit x) (hk : WideAt.IsKeyLit k) : (setOf u acc).atKey k z = if acc.any (fun x => x.sameKey k) then u else z := by
  cases h : acc.any (fun x => x.sameKey k) with
  | false =>
    rw [if_neg (by simp)]
    exact atKey_of_not_has ((has_setOf u k acc ha).trans h) z
  | true =>
    rw [if_pos rfl]
    revert h
    have key : ∀ n (acc : List Lit), acc.length = n → (∀ x ∈ acc, WideAt.IsKeyLit x) → acc.any (fun x => x.sameKey k) = true → (setOf u acc).atKey k z = u := by
      intro n
      induction n with
      | zero => intro acc hl _ h; rw [List.length_eq_zero_iff.1 hl] at h; simp at h
      | succ n ih =>
        intro acc hl ha h
        obtain ⟨l, x, rfl⟩ : ∃ l x, acc = l ++ [x] := ⟨acc.dropLast, acc.getLast (by intro e; rw [e] at hl; simp at hl), (List.dropLast_concat_getLast _).symm⟩
        rw [setOf_snoc]
        have hl' : ∀ y ∈ l, WideAt.IsKeyLit y := fun y hy => ha y (List.mem_append.2 (.inl hy))
        by_cases e : k = x
        · subst e
          exact atKey_put_same (tidy_setOf u l hl').isMap hk u z
        · rw [atKey_put_other e]
          refine ih l (by simpa using hl) hl' ?_
          rw [List.any_append, Bool.or_eq_true] at h
          rcases h with h | h
          · exact h
          · simp only [List.any_cons, List.any_nil, Bool.or_false] at h
            exact absurd ((WideAt.sameKey_iff hk).1 h).symm e
    exact key _ acc rfl ha

theorem lawS : Maps.Keyed Try.prog 9 := string_keyed Try.underlying9
theorem zeroB (w : World) : (zeroValue 4).run Try.prog w = .ok (.bool false) w := by kernel_rfl

/-- block b is a map[string]bool of the call's own whose keys are these names -/
def OwnsNames (w : World) (b : Nat) (names : List ByteArray) : Prop := w.ownsMap (H := Unit) Try.prog 9 (Go.plainElem Try.prog 4) b names.length (setOf (.lit (.bool true)) (names.map strLit))
theorem OwnsNames.made (w : World) : OwnsNames (w.alloc (.map #[] 0)) w.heap.size [] := World.ownsMap_made w _ _ _
theorem OwnsNames.kept {w w' : World} {b : Nat} {names : List ByteArray} {row : Option Nat} (h : OwnsNames w b names) (hg : w.grownBy w' row) (hne : some b ≠ row) : OwnsNames w' b names := World.ownsMap.kept h hg hne
theorem OwnsNames.below {w w' : World} {b : Nat} {names : List ByteArray} (h : OwnsNames w b names) (hb : Below w.heap.size w w') : OwnsNames w' b names :=
  h.kept (row := none) ⟨hb.os, hb.tape, hb.output, hb.size, fun k hk _ => hb.block k hk⟩ (by simp)
theorem OwnsNames.alloc {w : World} {b : Nat} {names : List ByteArray} (h : OwnsNames w b names) (o : Obj) : OwnsNames (w.alloc o) b names := World.ownsMap.alloc h o
theorem OwnsNames.lt {w : World} {b : Nat} {names : List ByteArray} (h : OwnsNames w b names) : b < w.heap.size := World.ownsMap.lt h
theorem keyS (s : ByteArray) (hs : s.size ≤ maxLen) : Go.keyOf Try.prog 9 (.string s) = some (strLit s) := Go.WideMaps.keyOf_string_mk Try.underlying9 hs
theorem OwnsNames.look {w : World} {b : Nat} {names : List ByteArray} (h : OwnsNames w b names) (s : ByteArray) (hs : s.size ≤ maxLen) : (Instr.lookup 166 (.map (some b)) (.string s) false).run Try.prog w = .ok (.bool (nameIn names s)) w := by
  obtain ⟨c, hr, hc⟩ := lookup_bool h lawS Try.underlying166 Try.underlying4 (zeroB w) (keyS s hs)
  rw [hr, atKey_setOf _ _ _ _ (fun x hx => by obtain ⟨y, -, rfl⟩ := List.mem_map.1 hx; exact isKey_str y) (isKey_str s), any_same] at *
  cases hn : nameIn names s <;> rw [hn] at hc
  · rw [if_neg (by simp)] at hc; cases hc; rfl
  · rw [if_pos rfl] at hc; cases hc; rfl
theorem OwnsNames.put {w : World} {b : Nat} {names : List ByteArray} (h : OwnsNames w b names) (s : ByteArray) (w' : World) (h' : w'.ownsMap (H := Unit) Try.prog 9 (Go.plainElem Try.prog 4) b (names.length + 1) ((setOf (.lit (.bool true)) (names.map strLit)).put (strLit s) (.lit (.bool true)))) : OwnsNames w' b (names ++ [s]) := by
  unfold OwnsNames
  rw [List.map_append, List.map_cons, List.map_nil, setOf_snoc, List.length_append]
  exact h'
theorem OwnsNames.add {w : World} {b : Nat} {names : List ByteArray} (h : OwnsNames w b names) (hn : names.length < 1000000) (s : ByteArray) (hs : s.size ≤ maxLen) :
    ∃ w', (Instr.mapUpdate 166 (.map (some b)) (.string s) (.bool true)).run Try.prog w = .ok () w' ∧ OwnsNames w' b (names ++ [s]) ∧ w.grownBy w' (some b) := by
  obtain ⟨w', hr, h1, h2⟩ := World.ownsMap.update h lawS Try.underlying166 (by unfold maxLen; omega) (keyS s hs) (plainElem_bool Try.underlying4 true)
  exact ⟨w', hr, h.put s w' h1, h2⟩
theorem ctorNames_len (xs : List Dt) (h : ∀ x ∈ xs, x.ctors.length ≤ 4) : (ctorNames xs).length ≤ 4 * xs.length := by
  induction xs with
  | nil => simp [ctorNames]
  | cons x xs ih =>
    have h1 := h x (by simp)
    have h2 := ih fun y hy => h y (by simp [hy])
    simp only [ctorNames, List.flatMap_cons, List.length_append, List.length_map, List.length_cons] at h2 ⊢
    omega
theorem dname_one {s : ByteArray} (h : s.size = 1) (p : 0 < s.size) : dnameOk s.data.toList = (bigB (s[0]'p) && !(s.toList == [73])) := by
  rw [ByteArray.toList_eq, one_byte s h]
  show (bigB (s[0]'p) && !(s[0] == 73)) = _
  congr 2
  simp
theorem dname_not {s : ByteArray} (h : s.size ≠ 1) : dnameOk s.data.toList = false := by
  have hl : s.data.toList.length ≠ 1 := by simpa using h
  generalize s.data.toList = l at *
  match l, hl with
  | [], _ => rfl
  | [c], hl => simp at hl
  | _ :: _ :: _, _ => rfl

set_option maxRecDepth 100000 in
set_option maxHeartbeats 1600000 in
theorem impl_WorldValid (xs : List Dt) (w : World) (v : Value) (F : List Nat) (hx : Arr w (DtR w) xs v F) (hf : Under w.heap.size F) :
    Calls Try.prog 88 #[v] w fun e w' => e = .returned (.bool (worldOk xs)) ∧ Below w.heap.size w w' := by
  obtain ⟨A, cap, rfl, hc1, hc2⟩ := hx.form
  have hn : xs.length ≤ 9223372036854775807 := by omega
  have HX := Lib.hid hx
  have HF := Lib.hid hf
  have HN := Lib.hid hn
  clear hx hf hn
  by_cases h4 : xs.length ≤ 4
  · have H0 := Lib.hid (WInv.zero h4)
    have hmm := @run_makeMap Try.prog
    go_enter Try.func88, Try.ntmps88
    go_wp2
    clear hmm
    have HM0 : Hid (OwnsNames ((w.alloc (.map #[] 0)).alloc (.map #[] 0)) w.heap.size (ctorNames (xs.take 0))) := (OwnsNames.made w).alloc _
    have HD0 : Hid (OwnsNames ((w.alloc (.map #[] 0)).alloc (.map #[] 0)) (w.heap.size + 1) ((xs.take 0).map Dt.name)) := by
      have := OwnsNames.made (w.alloc (.map #[] 0))
      rwa [World.size_alloc] at this
    go_loopw [16] (fun iv wr => ∃ d : Nat, d ≤ xs.length ∧ iv = .int .i64 d ∧ Hid (WInv xs d) ∧ Below w.heap.size w wr ∧ Hid (OwnsNames wr (w.heap.size + 1) ((xs.take d).map Dt.name)) ∧ Hid (OwnsNames wr w.heap.size (ctorNames (xs.take d))) ∧ Hid (∀ x ∈ xs.take d, x.ctors.length ≤ 4) ∧ w.heap.size + 1 < wr.heap.size) (fun iv _ => xs.length - (intOf iv).toNat)
    case atStart => exact ⟨0, Nat.zero_le _, rfl, H0, ((Below.refl _ _).alloc (Nat.le_refl _) _).alloc (by simp) _, HD0, HM0, fun x hx => by simp at hx, by simp⟩
    case round =>
      obtain ⟨d, hd, rfl, HW, hB, HD, HM, H4, hz⟩ := hrel
      by_cases hlt : d < xs.length
      · obtain ⟨b, off, rfl⟩ := HX.out.ptr (by omega)
        obtain ⟨A1, cap1, G1, hb, c0, c1, HK, HG, hs, hn1, hn2⟩ := ArrDt.at HX.out HF.out hB d hlt
        have g1 : (0 : Int) ≤ (d : Int) := by omega
        have g2 : (d : Int) < (xs.length : Int) := by omega
        have hsm : xs[d].name.size ≤ maxLen := by unfold maxLen; exact hs
        have HS := Lib.hid hsm
        clear hs hsm
        have hlk := (HD.out.alloc (.cells #[.string xs[d].name, .slice A1 xs[d].ctors.length cap1] 97)).look xs[d].name HS.out
        by_cases h1 : xs[d].name.size = 1
        · have t1 : ((xs[d].name.size : Int) != 1) = false := by simp [h1]
          have p0 : 0 < xs[d].name.size := by omega
          have hdn := dname_one h1 p0
          clear h1
          cases hlo : decide ((65 : Int) ≤ (xs[d].name[0].toNat : Int)) with
          | false =>
            have t2 : decide ((xs[d].name[0].toNat : Int) < 65) = true := by simp at hlo ⊢; omega
            have hf := Lib.hid (HW.out.bad1 hlt (by rw [hdn]; unfold bigB; rw [hlo]; rfl))
            clear hdn hlo hlk
            go_wp2
            go_ret
            exact ⟨ret_bool hf.out.symm, hB.alloc hB.size _⟩
          | true =>
            have t2 : decide ((xs[d].name[0].toNat : Int) < 65) = false := by simp at hlo ⊢; omega
            cases hhi : decide ((xs[d].name[0].toNat : Int) ≤ 90) with
            | false =>
              have t3 : decide ((xs[d].name[0].toNat : Int) > 90) = true := by simp at hhi ⊢; omega
              have hf := Lib.hid (HW.out.bad1 hlt (by rw [hdn]; unfold bigB; rw [hlo, hhi]; rfl))
              clear hdn hlo hhi hlk
              go_wp2
              go_ret
              exact ⟨ret_bool hf.out.symm, hB.alloc hB.size _⟩
            | true =>
              have t3 : decide ((xs[d].name[0].toNat : Int) > 90) = false := by simp at hhi ⊢; omega
              have hbig : bigB xs[d].name[0] = true := by unfold bigB; rw [hlo, hhi]; rfl
              clear hlo hhi
              rw [hbig, Bool.true_and] at hdn
              clear hbig
              cases t4 : (xs[d].name.toList == [73]) with
              | true =>
                have hf := Lib.hid (HW.out.bad1 hlt (by rw [hdn, t4]; rfl))
                clear hdn hlk
                go_wp2
                go_ret
                exact ⟨ret_bool hf.out.symm, hB.alloc hB.size _⟩
              | false =>
                rw [t4] at hdn
                have HDN := Lib.hid hdn
                clear hdn
                cases e3 : nameIn ((xs.take d).map Dt.name) xs[d].name with
                | true =>
                  have hf := Lib.hid (HW.out.bad3 hlt e3)
                  rw [e3] at hlk
                  clear e3
                  go_wp2
                  go_ret
                  exact ⟨ret_bool hf.out.symm, hB.alloc hB.size _⟩
                | false =>
                  rw [e3] at hlk
                  have HE3 := Lib.hid e3
                  clear e3
                  cases e4 : withinB (xs[d].ctors.length : Int) 1 4 with
                  | false =>
                    have hf := Lib.hid (HW.out.bad2 hlt e4)
                    have HE4 := Lib.hid e4
                    clear e4
                    go_wp2_with fail
                    refine (impl_within (xs[d].ctors.length : Int) 1 4 _).mono ?_
                    rintro e w2 ⟨rfl, rfl⟩
                    rw [HE4.out]
                    go_wp2
                    go_ret
                    exact ⟨ret_bool hf.out.symm, hB.alloc hB.size _⟩
                  | true =>
                    have HK0 := Lib.hid (HW.out.goI hlt HDN.out e4 HE3.out)
                    have h5 : xs[d].ctors.length ≤ 4 := by have := (withinB_iff _ _ _).1 e4; omega
                    have H5 := Lib.hid h5
                    have HE4 := Lib.hid e4
                    clear e4 h5
                    obtain ⟨w2, hrun2, hm2, hg2⟩ := (HD.out.alloc (.cells #[.string xs[d].name, .slice A1 xs[d].ctors.length cap1] 97)).add (by rw [List.length_map, List.length_take]; omega) xs[d].name HS.out
                    have k2 := Blk.new wr 97 #[.string xs[d].name, .slice A1 xs[d].ctors.length cap1]
                    have k3 := k2.same (hg2.block _ k2.lt (by have := HD.out.lt; simp; omega))
                    have x1 : w2.cell? ⟨wr.heap.size, 1, none⟩ = some (.slice A1 xs[d].ctors.length cap1) := (k3.cell 1).trans (by simp)
                    have hx1 := k3.lt
                    clear k2 k3
                    have hBa : Below w.heap.size w (wr.alloc (.cells #[.string xs[d].name, .slice A1 xs[d].ctors.length cap1] 97)) := hB.alloc hB.size _
                    have hB3 := hBa.grown hg2 hBa.size (fun _ h => by cases h; omega)
                    have HM3 : Hid (OwnsNames w2 w.heap.size (ctorNames (xs.take d) ++ (xs[d].ctors.take 0).map Kt.name)) := by
                      rw [List.take_zero, List.map_nil, List.append_nil]
                      exact (HM.out.alloc _).kept hg2 (by simp)
                    have HD3 : Hid (OwnsNames w2 (w.heap.size + 1) ((xs.take (d + 1)).map Dt.name)) := by
                      rw [take_snoc' xs d hlt, List.map_append]; exact hm2
                    have hz3 : w.heap.size + 1 < w2.heap.size := by have := hg2.size; simp at this; omega
                    clear hm2 hg2 hBa HD HM hz
                    go_wp2_with fail
                    refine (impl_within (xs[d].ctors.length : Int) 1 4 _).mono ?_
                    rintro e w2' ⟨rfl, rfl⟩
                    rw [HE4.out]
                    go_wp2
                    clear x1 hx1 hrun2 hlk t1 t2 t3 t4 c0 c1
                    obtain ⟨wo, hwo⟩ : ∃ wo : World, wo = w2 := ⟨_, rfl⟩
                    go_loopw [60] (fun jv ws => ∃ k : Nat, k ≤ xs[d].ctors.length ∧ jv = .int .i64 k ∧ Hid (KInvI xs d hlt k) ∧ Below w.heap.size w ws ∧ Hid (OwnsNames ws (w.heap.size + 1) ((xs.take (d + 1)).map Dt.name)) ∧ Hid (OwnsNames ws w.heap.size (ctorNames (xs.take d) ++ (xs[d].ctors.take k).map Kt.name)) ∧ w.heap.size + 1 < ws.heap.size) (fun jv _ => xs[d].ctors.length - (intOf jv).toNat)
                    case atStart => exact ⟨0, Nat.zero_le _, rfl, HK0, hB3, HD3, HM3, hz3⟩
                    case round =>
                      clear hwo hz3 hB3 hB
                      obtain ⟨k, hk, rfl, HKI, hB, HD, HM, hz⟩ := hrel
                      by_cases hkl : k < xs[d].ctors.length
                      · obtain ⟨b2, off2, rfl⟩ := HK.out.ptr (by omega)
                        obtain ⟨A3, cap3, G3, hb3, k0, k1, k2, HC, HG3, hs3, -, -⟩ := ArrKt.rep HK.out HG.out hB k hkl
                        have g3 : (0 : Int) ≤ (k : Int) := by omega
                        have g4 : (k : Int) < (xs[d].ctors.length : Int) := by omega
                        have HS3 := Lib.hid hs3
                        clear hs3
                        go_wp2_with fail
                        obtain ⟨W4, hW4⟩ : ∃ W4, W4 = wr.alloc (.cells #[.string xs[d].ctors[k].name, .slice A3 xs[d].ctors[k].args.length cap3, .int .i64 xs[d].ctors[k].idx] 138) := ⟨_, rfl⟩
                        have hb4 : Below wr.heap.size wr W4 := by rw [hW4]; exact (Below.refl _ _).alloc (Nat.le_refl _) _
                        have k4 : Blk W4 wr.heap.size 138 #[.string xs[d].ctors[k].name, .slice A3 xs[d].ctors[k].args.length cap3, .int .i64 xs[d].ctors[k].idx] := by rw [hW4]; exact Blk.new _ _ _
                        rw [← hW4]
                        clear hW4
                        have hB4 := hB.trans (hb4.mono hB.size)
                        refine (impl_ctorOk _ xs.length cap xs[d].ctors[k] W4 _ _ HN.out (HC.out.below hB4 HG3.out) (HG3.out.mono hB4.size)).mono ?_
                        rintro e w5 ⟨rfl, hb5⟩
                        have hB5 := hB4.trans (hb5.mono hB4.size)
                        have k5 := k4.same (hb5.block _ k4.lt)
                        have x0 : w5.cell? ⟨wr.heap.size, 0, none⟩ = some (.string xs[d].ctors[k].name) := (k5.cell 0).trans (by simp)
                        have hx0 := k5.lt
                        clear k4 k5 k0 k1 k2
                        have HD5 := Lib.hid ((HD.out.below hb4).below hb5)
                        have HM5 := Lib.hid ((HM.out.below hb4).below hb5)
                        have hlk := HM5.out.look xs[d].ctors[k].name (by unfold maxLen; exact HS3.out)
                        cases e2 : ctorOkB xs.length xs[d].ctors[k] with
                        | false =>
                          have hf := Lib.hid (HKI.out.bad1 hkl e2)
                          clear e2 hlk
                          go_wp2
                          go_ret
                          exact ⟨ret_bool hf.out.symm, hB5⟩
                        | true =>
                          cases e3 : nameIn (ctorNames (xs.take d) ++ (xs[d].ctors.take k).map Kt.name) xs[d].ctors[k].name with
                          | true =>
                            have hf := Lib.hid (HKI.out.bad2 hkl e3)
                            rw [e3] at hlk
                            clear e2 e3
                            go_wp2
                            go_ret
                            exact ⟨ret_bool hf.out.symm, hB5⟩
                          | false =>
                            have HK3 := Lib.hid (HKI.out.next hkl e2 e3)
                            rw [e3] at hlk
                            clear e2 e3
                            obtain ⟨w6, hrun6, hm6, hg6⟩ := HM5.out.add (by
                              have h1 := ctorNames_len (xs.take d) (fun x hx => H4.out x hx)
                              have h2 : (xs.take d).length ≤ 4 := by rw [List.length_take]; omega
                              have h3 := H5.out
                              simp only [List.length_append, List.length_map, List.length_take]
                              omega) xs[d].ctors[k].name (by unfold maxLen; exact HS3.out)
                            have hB6 := hB5.grown hg6 hB5.size (fun _ h => by cases h; exact Nat.le_refl _)
                            have HD6 := Lib.hid (HD5.out.kept hg6 (by simp))
                            have HM6 : Hid (OwnsNames w6 w.heap.size (ctorNames (xs.take d) ++ (xs[d].ctors.take (k + 1)).map Kt.name)) := by
                              rw [take_snoc' _ k hkl, List.map_append, ← List.append_assoc]; exact hm6
                            have hz6 : w.heap.size + 1 < w6.heap.size := Nat.lt_of_lt_of_le hz (Nat.le_trans hb4.size (Nat.le_trans hb5.size hg6.size))
                            clear hm6 hg6 hb5 hb4 HD5 HM5 hB4 hB5 hB
                            go_wp2
                            go_roundw
                            case rel => exact ⟨k + 1, by omega, by go_num, HK3, hB6, HD6, HM6, hz6⟩
                            case measure => (simp [intOf] <;> omega)
                      · have HW2 := Lib.hid (HKI.out.done (by omega))
                        have HM6 : Hid (OwnsNames wr w.heap.size (ctorNames (xs.take (d + 1)))) := by
                          have h := HM.out
                          rw [List.take_of_length_le (show xs[d].ctors.length ≤ k by omega), ← ctorNames_snoc, ← take_snoc' xs d hlt] at h
                          exact h
                        have H6 : Hid (∀ x ∈ xs.take (d + 1), x.ctors.length ≤ 4) := fun x hx => by
                          rw [take_snoc' xs d hlt] at hx
                          rcases List.mem_append.1 hx with h | h
                          · exact H4.out x h
                          · rw [List.mem_singleton.1 h]; exact H5.out
                        go_wp2
                        go_roundw
                        case rel => exact ⟨d + 1, by omega, by go_num, HW2, hB, HD, HM6, H6, hz⟩
                        case measure => (simp [intOf] <;> omega)
        · have t1 : ((xs[d].name.size : Int) != 1) = true := by simp; omega
          have hf := Lib.hid (HW.out.bad1 hlt (dname_not h1))
          clear h1 hlk
          go_wp2
          go_ret
          exact ⟨ret_bool hf.out.symm, hB.alloc hB.size _⟩
      · have hf := Lib.hid (HW.out.done (by omega))
        go_wp2
        go_ret
        exact ⟨ret_bool hf.out.symm, hB⟩
  · have hf := Lib.hid (worldOk_long h4)
    go_enter Try.func88, Try.ntmps88
    go_wp2
    go_ret
    exact ⟨ret_bool hf.out.symm, Below.refl _ _⟩
end Go.Proofs.Ytilndhmegaccmaa

namespace Go.Proofs.Ytilndhmegaccmaa
open Go.RowKit

set_option maxRecDepth 100000 in
set_option maxHeartbeats 1600000 in
theorem impl_typeOk (A : Option Addr) (n cap : Nat) (t : Ty) (w : World) (hn : n ≤ 9223372036854775807) : Calls Try.prog 89 #[.slice A n cap, .agg #[.int .i64 t.d, .int .i64 t.i]] w fun e w' => e = .returned (.bool (typeOkB n t)) ∧ Below w.heap.size w w' := by
  cases h0 : (t.d == -1) with
  | true =>
    cases h1 : (t.i == 0) with
    | true =>
      have hf : Hid (typeOkB n t = true) := by unfold Hid typeOkB; rw [if_pos (by simpa using h0), h1]
      go_enter Try.func89, Try.ntmps89
      go_wp2
      go_ret
      exact ⟨ret_bool hf.out.symm, (Below.refl _ _).alloc (Nat.le_refl _) _⟩
    | false =>
      have hf : Hid (typeOkB n t = false) := by unfold Hid typeOkB; rw [if_pos (by simpa using h0), h1]
      have hw : Hid (withinB t.d 0 ((n : Int) - 1) = false) := by
        have : t.d = -1 := by simpa using h0
        exact withinB_lo (by rw [this]; rfl)
      go_enter Try.func89, Try.ntmps89
      go_wp2_with fail
      refine (impl_within t.d 0 ((n : Int) - 1) _).mono ?_
      rintro e w' ⟨rfl, rfl⟩
      rw [hw.out]
      go_wp2
      go_ret
      exact ⟨ret_bool hf.out.symm, (Below.refl _ _).alloc (Nat.le_refl _) _⟩
  | false =>
    have hf0 : typeOkB n t = (withinB t.d 0 ((n : Int) - 1) && withinB t.i 0 3) := by unfold typeOkB; rw [if_neg (by simpa using h0)]
    cases hw : withinB t.d 0 ((n : Int) - 1) with
    | false =>
      have hf : Hid (typeOkB n t = false) := by rw [hf0, hw]; rfl
      have HW := Lib.hid hw
      clear hf0 hw
      go_enter Try.func89, Try.ntmps89
      go_wp2_with fail
      refine (impl_within t.d 0 ((n : Int) - 1) _).mono ?_
      rintro e w' ⟨rfl, rfl⟩
      rw [HW.out]
      go_wp2
      go_ret
      exact ⟨ret_bool hf.out.symm, (Below.refl _ _).alloc (Nat.le_refl _) _⟩
    | true =>
      have hf : Hid (typeOkB n t = withinB t.i 0 3) := by rw [hf0, hw]; rfl
      have HW := Lib.hid hw
      clear hf0 hw
      go_enter Try.func89, Try.ntmps89
      go_wp2_with fail
      refine (impl_within t.d 0 ((n : Int) - 1) _).mono ?_
      rintro e w' ⟨rfl, rfl⟩
      rw [HW.out]
      go_wp2_with fail
      refine (impl_within t.i 0 3 _).mono ?_
      rintro e w' ⟨rfl, rfl⟩
      generalize hbb : withinB t.i 0 3 = bb
      have HBB := Lib.hid hbb
      clear hbb
      go_wp2
      go_ret
      exact ⟨ret_bool (hf.out.trans HBB.out).symm, (Below.refl _ _).alloc (Nat.le_refl _) _⟩

set_option maxRecDepth 100000 in
set_option maxHeartbeats 1600000 in
theorem spec_l1Is (A : Option Addr) (n cap : Nat) (t : Ty) (w : World) : Calls Try.prog 103 #[.slice A n cap, .agg #[.int .i64 t.d, .int .i64 t.i]] w fun e w' => e = .returned (.bool (typeOkB n t)) ∧ Below w.heap.size w w' := by
  have h0 := typeOkB_arg n t
  go_enter Try.func103, Try.ntmps103
  go_wp2_with fail
  obtain ⟨W2, hW2⟩ : ∃ W2, W2 = w.alloc (.cells #[.int .i64 t.d, .int .i64 t.i] 32) := ⟨_, rfl⟩
  have hB2 : Below w.heap.size w W2 := by rw [hW2]; exact (Below.refl _ _).alloc (Nat.le_refl _) _
  have k1 : Blk W2 w.heap.size 32 #[.int .i64 t.d, .int .i64 t.i] := by rw [hW2]; exact Blk.new _ _ _
  rw [← hW2]
  clear hW2
  refine (spec_l1Arg n t W2).mono ?_
  rintro e w' ⟨rfl, hB'⟩
  have hB3 := hB2.trans (hB'.mono hB2.size)
  have k2 := k1.same (hB'.block _ k1.lt)
  have x1 : w'.cell? ⟨w.heap.size, 1, none⟩ = some (.int .i64 t.i) := (k2.cell 1).trans (by simp)
  have hlt := k2.lt
  clear k1 k2
  cases h1 : argOkB n t with
  | false =>
    rw [h1] at h0
    have hf := Lib.hid h0
    clear h0 h1
    go_wp2
    go_ret
    exact ⟨ret_bool hf.out, hB3⟩
  | true =>
    rw [h1, Bool.true_and] at h0
    have hf := Lib.hid h0
    clear h0 h1
    go_wp2
    go_ret
    exact ⟨ret_bool hf.out, hB3⟩

set_option maxRecDepth 100000 in
set_option maxHeartbeats 1600000 in
theorem spec_TypeValid (xs : List Dt) (t : Ty) (w : World) (v : Value) (F : List Nat) (hx : Arr w (DtR w) xs v F) (hf : Under w.heap.size F) :
    Calls Try.prog 58 #[v, .agg #[.int .i64 t.d, .int .i64 t.i]] w fun e w' => e = .returned (.bool (typeValidB xs t)) ∧ Below w.heap.size w w' := by
  obtain ⟨A, cap, rfl, hc1, hc2⟩ := hx.form
  have hn : xs.length ≤ 9223372036854775807 := by omega
  have HX := Lib.hid hx
  have HF := Lib.hid hf
  have HN := Lib.hid hn
  clear hx hf hn
  go_enter Try.func58, Try.ntmps58
  go_wp2_with fail
  obtain ⟨W2, hW2⟩ : ∃ W2, W2 = w.alloc (.cells #[.int .i64 t.d, .int .i64 t.i] 32) := ⟨_, rfl⟩
  have hB2 : Below w.heap.size w W2 := by rw [hW2]; exact (Below.refl _ _).alloc (Nat.le_refl _) _
  have k1 : Blk W2 w.heap.size 32 #[.int .i64 t.d, .int .i64 t.i] := by rw [hW2]; exact Blk.new _ _ _
  rw [← hW2]
  clear hW2
  refine (spec_WorldValid xs W2 _ F (ArrDt.below HX.out hB2 HF.out) (HF.out.mono hB2.size)).mono ?_
  rintro e w' ⟨rfl, hB'⟩
  have hB3 := hB2.trans (hB'.mono hB2.size)
  have k2 := k1.same (hB'.block _ k1.lt)
  have x0 : w'.cell? ⟨w.heap.size, 0, none⟩ = some (.int .i64 t.d) := (k2.cell 0).trans (by simp)
  have x1 : w'.cell? ⟨w.heap.size, 1, none⟩ = some (.int .i64 t.i) := (k2.cell 1).trans (by simp)
  have hlt := k2.lt
  clear k1 k2
  cases h1 : worldOk xs with
  | false =>
    have hf : Hid (typeValidB xs t = false) := by unfold Hid typeValidB; rw [h1]; rfl
    clear h1
    go_wp2
    go_ret
    exact ⟨ret_bool hf.out.symm, hB3⟩
  | true =>
    have hf : Hid (typeValidB xs t = typeOkB xs.length t) := by unfold Hid typeValidB; rw [h1]; rfl
    clear h1
    go_wp2_with fail
    refine (spec_l1Is _ xs.length cap t w').mono ?_
    rintro e w2 ⟨rfl, hB''⟩
    have hB4 := hB3.trans (hB''.mono hB3.size)
    generalize hbb : typeOkB (xs.length : Int) t = bb
    have HBB := Lib.hid hbb
    clear hbb
    go_wp2
    go_ret
    exact ⟨ret_bool (hf.out.trans HBB.out).symm, hB4⟩

set_option maxRecDepth 100000 in
set_option maxHeartbeats 1600000 in
theorem impl_TypeValid (xs : List Dt) (t : Ty) (w : World) (v : Value) (F : List Nat) (hx : Arr w (DtR w) xs v F) (hf : Under w.heap.size F) :
    Calls Try.prog 39 #[v, .agg #[.int .i64 t.d, .int .i64 t.i]] w fun e w' => e = .returned (.bool (typeValidB xs t)) ∧ Below w.heap.size w w' := by
  obtain ⟨A, cap, rfl, hc1, hc2⟩ := hx.form
  have hn : xs.length ≤ 9223372036854775807 := by omega
  have HX := Lib.hid hx
  have HF := Lib.hid hf
  have HN := Lib.hid hn
  clear hx hf hn
  go_enter Try.func39, Try.ntmps39
  go_wp2_with fail
  obtain ⟨W2, hW2⟩ : ∃ W2, W2 = w.alloc (.cells #[.int .i64 t.d, .int .i64 t.i] 32) := ⟨_, rfl⟩
  have hB2 : Below w.heap.size w W2 := by rw [hW2]; exact (Below.refl _ _).alloc (Nat.le_refl _) _
  have k1 : Blk W2 w.heap.size 32 #[.int .i64 t.d, .int .i64 t.i] := by rw [hW2]; exact Blk.new _ _ _
  rw [← hW2]
  clear hW2
  refine (impl_WorldValid xs W2 _ F (ArrDt.below HX.out hB2 HF.out) (HF.out.mono hB2.size)).mono ?_
  rintro e w' ⟨rfl, hB'⟩
  have hB3 := hB2.trans (hB'.mono hB2.size)
  have k2 := k1.same (hB'.block _ k1.lt)
  have x0 : w'.cell? ⟨w.heap.size, 0, none⟩ = some (.int .i64 t.d) := (k2.cell 0).trans (by simp)
  have x1 : w'.cell? ⟨w.heap.size, 1, none⟩ = some (.int .i64 t.i) := (k2.cell 1).trans (by simp)
  have hlt := k2.lt
  clear k1 k2
  cases h1 : worldOk xs with
  | false =>
    have hf : Hid (typeValidB xs t = false) := by unfold Hid typeValidB; rw [h1]; rfl
    clear h1
    go_wp2
    go_ret
    exact ⟨ret_bool hf.out.symm, hB3⟩
  | true =>
    have hf : Hid (typeValidB xs t = typeOkB xs.length t) := by unfold Hid typeValidB; rw [h1]; rfl
    clear h1
    go_wp2_with fail
    refine (impl_typeOk _ xs.length cap t w' HN.out).mono ?_
    rintro e w2 ⟨rfl, hB''⟩
    have hB4 := hB3.trans (hB''.mono hB3.size)
    generalize hbb : typeOkB (xs.length : Int) t = bb
    have HBB := Lib.hid hbb
    clear hbb
    go_wp2
    go_ret
    exact ⟨ret_bool (hf.out.trans HBB.out).symm, hB4⟩
end Go.Proofs.Ytilndhmegaccmaa

namespace Go.Proofs.Ytilndhmegaccmaa
open Go.RowKit

/-- what CtorsOf gives -/
def ctorsOfL (xs : List Dt) (t : Ty) : List Int := if typeValidB xs t = true then ctorsL xs t else []
theorem sumBy_one {α : Type} {f : α → Nat} (h : ∀ x, f x = 1) (xs : List α) : sumBy f xs = xs.length := by
  induction xs with
  | nil => rfl
  | cons x xs ih => rw [sumBy, ih, h, List.length_cons]; omega
theorem ctorsOfL_len (xs : List Dt) (t : Ty) : (ctorsOfL xs t).length ≤ 4 := by
  unfold ctorsOfL
  split
  · rename_i h
    obtain ⟨hw, ht⟩ := typeValid_split h
    rcases typeOkB_in ht with hd | ⟨d, hd, hdl⟩
    · rw [ctorsL_int hd]; simp
    · obtain ⟨t1, t2⟩ := t
      simp only at hd
      subst hd
      rw [ctorsL_data hdl]
      exact Nat.le_trans (fitTo_len _ _ _) (hw.at hdl).hi
  · simp

set_option maxRecDepth 100000 in
set_option maxHeartbeats 1600000 in
theorem spec_l1Fits (c : Kt) (i : Int) (A : Option Addr) (n cap : Nat) (w : World) : Calls Try.prog 145 #[.agg #[.string c.name, .slice A n cap, .int .i64 c.idx], .int .i64 i] w fun e w' => e = .returned (.bool (fitsB c i)) ∧ Below w.heap.size w w' := by
  cases q1 : (c.idx == 0) with
  | true =>
    have hf : Hid (fitsB c i = true) := by unfold Hid fitsB; rw [q1, Bool.true_or]
    go_enter Try.func145, Try.ntmps145
    go_wp2
    go_ret
    exact ⟨ret_bool hf.out.symm, (Below.refl _ _).alloc (Nat.le_refl _) _⟩
  | false =>
    cases q0 : (i == 0) with
    | true =>
      have hf : Hid (fitsB c i = true) := by unfold Hid fitsB; rw [q0, Bool.true_or, Bool.or_true]
      go_enter Try.func145, Try.ntmps145
      go_wp2
      go_ret
      exact ⟨ret_bool hf.out.symm, (Below.refl _ _).alloc (Nat.le_refl _) _⟩
    | false =>
      have hf : Hid (fitsB c i = (c.idx == i)) := by unfold Hid fitsB; rw [q0, q1, Bool.false_or, Bool.false_or]
      go_enter Try.func145, Try.ntmps145
      go_wp2
      go_ret
      exact ⟨ret_bool hf.out.symm, (Below.refl _ _).alloc (Nat.le_refl _) _⟩
set_option maxRecDepth 100000 in
set_option maxHeartbeats 1600000 in
theorem spec_l1Ctors (xs : List Dt) (t : Ty) (w : World) (v : Value) (F : List Nat) (hx : Arr w (DtR w) xs v F) (hf : Under w.heap.size F) (hw : WorldOK xs) (ht : InWorld xs.length t) :
    Calls Try.prog 108 #[v, .agg #[.int .i64 t.d, .int .i64 t.i]] w (MadeNats w (ctorsL xs t)) := by
  obtain ⟨A, cap, rfl, hc1, hc2⟩ := hx.form
  have HX := Lib.hid hx
  have HF := Lib.hid hf
  clear hx hf
  rcases ht with hd | ⟨d, hd, hdl⟩
  · have hf := Lib.hid (ctorsL_int (xs := xs) hd)
    have t0 : (t.d == -1) = true := by simp [hd]
    clear hd
    go_enter Try.func108, Try.ntmps108
    go_wp2
    go_ret
    rw [hf.out]
    exact ⟨_, [], rfl, ((Below.refl _ _).alloc (Nat.le_refl _) _).alloc (by simp) _, ⟨_, _, rfl, by simp, by simp [maxLen], .inl ⟨rfl, rfl⟩⟩, Free.nil _, Fresh.nil _ _⟩
  · obtain ⟨t1, t2⟩ := t
    simp only at hd
    subst hd
    have hf := Lib.hid (ctorsL_data (i := t2) hdl)
    have t0 : ((d : Int) == -1) = false := by rw [beq_eq_false_iff_ne]; omega
    obtain ⟨i0, hi, hz0, hz1, hz2⟩ := info_parts info_int
    have HI := Lib.hid hi
    have HZ0 := Lib.hid hz0
    have HZ1 := Lib.hid hz1
    have HZ2 := Lib.hid hz2
    clear hi hz0 hz1 hz2
    obtain ⟨b, off, rfl⟩ := HX.out.ptr (by omega)
    have hB0 : Below w.heap.size w ((w.alloc (.cells #[.int .i64 (d : Int), .int .i64 t2] 32)).alloc (.cells #[] 3)) := ((Below.refl _ _).alloc (Nat.le_refl _) _).alloc (by simp) _
    have KT0 : Hid (Blk ((w.alloc (.cells #[.int .i64 (d : Int), .int .i64 t2] 32)).alloc (.cells #[] 3)) w.heap.size 32 #[.int .i64 (d : Int), .int .i64 t2]) := (Blk.new _ _ _).same (Below.heap_alloc _ _ _ (by simp))
    have HO0 : Hid (Own ((w.alloc (.cells #[.int .i64 (d : Int), .int .i64 t2] 32)).alloc (.cells #[] 3)) (w.heap.size + 1) 3 1 NatR ([] : List Int) (.slice (some ⟨w.heap.size + 1, 0, none⟩) 0 0) []) := by
      have h := Own.made (w.alloc (.cells #[.int .i64 (d : Int), .int .i64 t2] 32)) (w.heap.size + 1) 3 1 NatR #[] 0 (by simp) (by simp [maxLen]) rfl
      rwa [World.size_alloc] at h
    have g1 : (0 : Int) ≤ (d : Int) := by omega
    have g2 : (d : Int) < (xs.length : Int) := by omega
    have HL := Lib.hid (hw.at hdl).hi
    go_enter Try.func108, Try.ntmps108
    go_wp2
    go_loopw [5, 6] (fun ov iv wr => ∃ k : Nat, k ≤ xs[d].ctors.length ∧ iv = .int .i64 k ∧ Hid (Own wr (w.heap.size + 1) 3 1 NatR (fitTo xs[d].ctors t2 k) ov []) ∧ Below w.heap.size w wr ∧ Hid (Blk wr w.heap.size 32 #[.int .i64 (d : Int), .int .i64 t2])) (fun _ iv _ => xs[d].ctors.length - (intOf iv).toNat)
    case atStart => exact ⟨0, Nat.zero_le _, rfl, HO0, hB0, KT0⟩
    case round =>
      clear hB0 KT0 HO0
      obtain ⟨k, hk, rfl, HO, hB, KT⟩ := hrel
      obtain ⟨A1, cap1, G1, hb, c0, c1, HK, HG, hs, hn1, hn2⟩ := ArrDt.at HX.out HF.out hB d hdl
      clear c0 hs
      have y0 : wr.cell? ⟨w.heap.size, 0, none⟩ = some (.int .i64 (d : Int)) := (KT.out.cell 0).trans (by simp)
      have y1 : wr.cell? ⟨w.heap.size, 1, none⟩ = some (.int .i64 t2) := (KT.out.cell 1).trans (by simp)
      have hy1 := KT.out.lt
      by_cases hkl : k < xs[d].ctors.length
      · obtain ⟨b2, off2, rfl⟩ := HK.out.ptr (by omega)
        obtain ⟨A3, cap3, G3, hb3, k0, k1, k2, HC, HG3, -, -, -⟩ := ArrKt.rep HK.out HG.out hB k hkl
        have g3 : (0 : Int) ≤ (k : Int) := by omega
        have g4 : (k : Int) < (xs[d].ctors.length : Int) := by omega
        go_wp2_with fail
        have hkeep : ∀ U U' : World, (U.cell? ⟨w.heap.size, 0, none⟩ = some (.int .i64 (d : Int)) ∧ U.cell? ⟨w.heap.size, 1, none⟩ = some (.int .i64 t2) ∧ U.cell? ⟨b, off + d * 2 + 1, none⟩ = some (.slice (some ⟨b2, off2, none⟩) xs[d].ctors.length cap1) ∧ U.cell? ⟨b2, off2 + k * 3, none⟩ = some (.string xs[d].ctors[k].name) ∧ U.cell? ⟨b2, off2 + k * 3 + 1, none⟩ = some (.slice A3 xs[d].ctors[k].args.length cap3) ∧ U.cell? ⟨b2, off2 + k * 3 + 2, none⟩ = some (.int .i64 xs[d].ctors[k].idx)) → Below U.heap.size U U' → wr.heap.size ≤ U.heap.size → (U'.cell? ⟨w.heap.size, 0, none⟩ = some (.int .i64 (d : Int)) ∧ U'.cell? ⟨w.heap.size, 1, none⟩ = some (.int .i64 t2) ∧ U'.cell? ⟨b, off + d * 2 + 1, none⟩ = some (.slice (some ⟨b2, off2, none⟩) xs[d].ctors.length cap1) ∧ U'.cell? ⟨b2, off2 + k * 3, none⟩ = some (.string xs[d].ctors[k].name) ∧ U'.cell? ⟨b2, off2 + k * 3 + 1, none⟩ = some (.slice A3 xs[d].ctors[k].args.length cap3) ∧ U'.cell? ⟨b2, off2 + k * 3 + 2, none⟩ = some (.int .i64 xs[d].ctors[k].idx)) := fun U U' h hUU hU => ⟨(hUU.cell (Nat.lt_of_lt_of_le (KT.out.lt) hU)).trans h.1, (hUU.cell (Nat.lt_of_lt_of_le (KT.out.lt) hU)).trans h.2.1, (hUU.cell (Nat.lt_of_lt_of_le (hb) hU)).trans h.2.2.1, (hUU.cell (Nat.lt_of_lt_of_le (hb3) hU)).trans h.2.2.2.1, (hUU.cell (Nat.lt_of_lt_of_le (hb3) hU)).trans h.2.2.2.2.1, (hUU.cell (Nat.lt_of_lt_of_le (hb3) hU)).trans h.2.2.2.2.2⟩
        have HKeep := Lib.hid hkeep
        clear hkeep
        go_region_held3 (fun w' => w'.cell? ⟨w.heap.size, 0, none⟩ = some (.int .i64 (d : Int)) ∧ w'.cell? ⟨w.heap.size, 1, none⟩ = some (.int .i64 t2) ∧ w'.cell? ⟨b, off + d * 2 + 1, none⟩ = some (.slice (some ⟨b2, off2, none⟩) xs[d].ctors.length cap1) ∧ w'.cell? ⟨b2, off2 + k * 3, none⟩ = some (.string xs[d].ctors[k].name) ∧ w'.cell? ⟨b2, off2 + k * 3 + 1, none⟩ = some (.slice A3 xs[d].ctors[k].args.length cap3) ∧ w'.cell? ⟨b2, off2 + k * 3 + 2, none⟩ = some (.int .i64 xs[d].ctors[k].idx)) (first | assumption | (exact ⟨y0, y1, c1, k0, k1, k2⟩) | (exact HKeep.out wr.drew w' ⟨y0, y1, c1, k0, k1, k2⟩ hB' (Nat.le_refl _))) (first | (go_at_call 145; ((with_reducible refine (spec_l1Fits xs[d].ctors[k] t2 _ _ _ _).mono ?_); rintro e w' ⟨rfl, hB'⟩)))
        have hB1 := hB.drew.trans (hB'.mono hB.size)
        have HO1 : Hid (Own w' (w.heap.size + 1) 3 1 NatR (fitTo xs[d].ctors t2 k) u5 []) := Own.below (fun x cs G hk h => NatR_mono _ _ x cs G hk h) (w := wr) HO.out (below_undrew hB')
        have KT1 : Hid (Blk w' w.heap.size 32 #[.int .i64 (d : Int), .int .i64 t2]) := KT.out.same (hB'.block _ KT.out.lt)
        have hsz1 : wr.heap.size ≤ w'.heap.size := hB'.size
        have hz1' : w.heap.size + 1 ≤ wr.heap.size := KT.out.lt
        clear HKeep
        cases e1 : fitsB xs[d].ctors[k] t2 with
        | false =>
          have HF2 := Lib.hid (fitTo_no hkl e1)
          clear e1
          go_wp2
          go_roundw
          case rel => exact ⟨k + 1, by omega, by go_num, (by rw [HF2.out]; exact HO1.out), hB1, KT1⟩
          case measure => (simp [intOf] <;> omega)
        | true =>
          have HF2 := Lib.hid (fitTo_yes hkl e1)
          clear e1
          have hlen := fitTo_len xs[d].ctors t2 k
          go_wp2_with (at_builtin; refine Halt.mk ?_)
          refine Halt.of (wpList_push1 (P := Try.prog) rfl _ _ 106 rfl i0 _ 8 Try.underlying106 HI.out HZ0.out HZ1.out HZ2.out rfl Nat.zero_lt_one NatR_len NatR_mono (by rfl) HO1.out (k : Int) 3 [.int .i64 (k : Int)] [] _ (by rfl) (by simp) (by simp [Value.oneCell']) ⟨rfl, rfl⟩ (Under.nil _) (fun _ _ h => by cases h) (by have := HL.out; unfold maxLen; omega) (by have := HL.out; omega) (Nat.le_trans hz1' hsz1) ?_)
          intro g cp w3 hown3 hgr3 hat3
          have hrow := HO1.out.row
          have hB3 : Below w.heap.size w w3 := (hB1.alloc hB1.size _).grown hgr3 (by have := hB1.size; simp; omega) (fun g hg => by have := hrow g (mem_rowOf.2 hg); omega)
          have HO3 := Lib.hid hown3
          have KT3 : Hid (Blk w3 w.heap.size 32 #[.int .i64 (d : Int), .int .i64 t2]) := (KT1.out.same (Below.heap_alloc _ _ _ KT1.out.lt)).same (hgr3.block _ (by have := KT1.out.lt; simp; omega) (fun e => by have := hrow _ (mem_rowOf.2 e.symm); omega))
          have hsz3 := hgr3.size
          clear hown3 hgr3 hat3 hrow hlen
          go_wp2
          go_roundw
          case rel => exact ⟨k + 1, by omega, by go_num, (by rw [HF2.out]; exact HO3.out), hB3, KT3⟩
          case measure => (simp [intOf] <;> omega)
      · have hfin : MadeNats w (ctorsL xs ⟨(d : Int), t2⟩) (.returned u5) wr := by
          rw [hf.out]
          have h := HO.out
          rw [show k = xs[d].ctors.length by omega] at h
          exact h.nats hB (by omega)
        have HFin := Lib.hid hfin
        clear hfin
        go_wp2
        go_ret
        exact HFin.out
end Go.Proofs.Ytilndhmegaccmaa

namespace Go.Proofs.Ytilndhmegaccmaa
open Go.RowKit

def hasB (xs : List Int) (n : Int) : Bool := xs.any fun x => n == x
theorem hasB_iff (xs : List Int) (n : Int) : hasB xs n = true ↔ n ∈ xs := by
  unfold hasB
  rw [List.any_eq_true]
  exact ⟨fun ⟨x, h, e⟩ => by rw [beq_iff_eq] at e; rw [e]; exact h, fun h => ⟨n, h, by simp⟩⟩

set_option maxRecDepth 100000 in
set_option maxHeartbeats 1600000 in
theorem Index_int (xs : List Int) (n r : Int) (hr : FirstAt (fun x => n == x) xs r) (w : World) (x : Value) (F : List Nat) (hx : Arr w (NatR w) xs x F) (hf : Under w.heap.size F) :
    Calls Try.prog 169 #[x, .int .i64 n] w fun e w' => e = .returned (.int .i64 r) ∧ Below w.heap.size w w' := by
  obtain ⟨A, cap, rfl, hc1, hc2⟩ := hx.form
  have HX := Lib.hid hx
  have HF := Lib.hid hf
  have HR := Lib.hid hr
  clear hx hf hr
  go_enter Try.func169, Try.ntmps169
  go_wp2
  go_loopw [8] (fun i wr => ∃ k : Nat, k ≤ xs.length ∧ i = .int .i64 k ∧ Hid (∀ j (hj : j < xs.length), j < k → (n == xs[j]) = false) ∧ Below w.heap.size w wr) (fun i _ => xs.length - (intOf i).toNat)
  case atStart => exact ⟨0, Nat.zero_le _, rfl, fun j hj h => by omega, Below.refl _ _⟩
  case round =>
    obtain ⟨k, hk, rfl, HT, hB⟩ := hrel
    by_cases hlt : k < xs.length
    · have g1 : (0 : Int) ≤ (k : Int) := by omega
      have g2 : (k : Int) < (xs.length : Int) := by omega
      obtain ⟨b, off, rfl⟩ := HX.out.ptr (by omega)
      obtain ⟨hb, c0⟩ := ArrNat.at HX.out HF.out hB k hlt
      cases hq : (n == xs[k]) with
      | true =>
        have hf := Lib.hid (HR.out.hit hlt hq (fun j hj h => HT.out j hj h))
        go_wp2
        go_ret
        exact ⟨ret_int hf.out.symm, hB⟩
      | false =>
        have hT2 : Hid (∀ j (hj : j < xs.length), j < k + 1 → (n == xs[j]) = false) := fun j hj h => by
          rcases Nat.lt_or_ge j k with h2 | h2
          · exact HT.out j hj h2
          · obtain rfl : j = k := by omega
            exact hq
        go_wp2
        go_roundw
        case rel => exact ⟨k + 1, by omega, by go_num, hT2, hB⟩
        case measure => (simp [intOf] <;> omega)
    · have hf : Hid (r = -1) := HR.out.miss (fun j hj => HT.out j hj (by omega))
      go_wp2
      go_ret
      exact ⟨ret_int hf.out.symm, hB⟩

set_option maxRecDepth 100000 in
set_option maxHeartbeats 1600000 in
theorem impl_has (xs : List Int) (n : Int) (w : World) (x : Value) (F : List Nat) (hx : Arr w (NatR w) xs x F) (hf : Under w.heap.size F) :
    Calls Try.prog 152 #[x, .int .i64 n] w fun e w' => e = .returned (.bool (hasB xs n)) ∧ Below w.heap.size w w' := by
  obtain ⟨r, hr⟩ := FirstAt.ex (fun x => n == x) xs
  have hres : Hid (hasB xs n = decide (0 ≤ r)) := hr.any
  have hcall := Index_int xs n r hr w x F hx hf
  obtain ⟨A, cap, rfl, hc1, hc2⟩ := hx.form
  have HC := Lib.hid hcall
  clear hcall hr hx hf
  go_enter Try.func152, Try.ntmps152
  go_wp2_with fail
  refine HC.out.mono ?_
  rintro e w' ⟨rfl, hB'⟩
  go_wp2
  go_ret
  exact ⟨ret_bool hres.out.symm, hB'⟩
theorem any_drop {α : Type} (p : α → Bool) (l : List α) (k : Nat) (h : k < l.length) : (l.drop k).any p = (p l[k] || (l.drop (k + 1)).any p) := by
  rw [List.drop_eq_getElem_cons h]; rfl

set_option maxRecDepth 100000 in
set_option maxHeartbeats 1600000 in
theorem spec_l1Has (xs : List Int) (n : Int) (w : World) (x : Value) (F : List Nat) (hx : Arr w (NatR w) xs x F) (hf : Under w.heap.size F) :
    Calls Try.prog 154 #[x, .int .i64 n] w fun e w' => e = .returned (.bool (hasB xs n)) ∧ Below w.heap.size w w' := by
  obtain ⟨A, cap, rfl, hc1, hc2⟩ := hx.form
  have HX := Lib.hid hx
  have HF := Lib.hid hf
  clear hx hf
  go_enter Try.func154, Try.ntmps154
  go_wp2
  go_loopw [5] (fun i wr => ∃ k : Nat, k ≤ xs.length ∧ i = .int .i64 k ∧ Hid (hasB xs n = (xs.drop k).any fun x => n == x) ∧ Below w.heap.size w wr) (fun i _ => xs.length - (intOf i).toNat)
  case atStart => exact ⟨0, Nat.zero_le _, rfl, (show hasB xs n = hasB xs n from rfl), Below.refl _ _⟩
  case round =>
    obtain ⟨k, hk, rfl, HT, hB⟩ := hrel
    by_cases hlt : k < xs.length
    · have g1 : (0 : Int) ≤ (k : Int) := by omega
      have g2 : (k : Int) < (xs.length : Int) := by omega
      obtain ⟨b, off, rfl⟩ := HX.out.ptr (by omega)
      obtain ⟨hb, c0⟩ := ArrNat.at HX.out HF.out hB k hlt
      have hd := HT.out
      rw [any_drop _ xs k hlt] at hd
      cases hq : (xs[k] == n) with
      | true =>
        have hq2 : (n == xs[k]) = true := by rw [beq_iff_eq] at hq ⊢; exact hq.symm
        rw [hq2, Bool.true_or] at hd
        have hf := Lib.hid hd
        clear hd hq2
        go_wp2
        go_ret
        exact ⟨ret_bool hf.out.symm, hB⟩
      | false =>
        have hq2 : (n == xs[k]) = false := by rw [beq_eq_false_iff_ne] at hq ⊢; exact fun e => hq e.symm
        rw [hq2, Bool.false_or] at hd
        have HT2 := Lib.hid hd
        clear hd hq2
        go_wp2
        go_roundw
        case rel => exact ⟨k + 1, by omega, by go_num, HT2, hB⟩
        case measure => (simp [intOf] <;> omega)
    · have hd := HT.out
      rw [List.drop_of_length_le (by omega)] at hd
      have hf := Lib.hid hd
      clear hd
      go_wp2
      go_ret
      exact ⟨ret_bool hf.out.symm, hB⟩
end Go.Proofs.Ytilndhmegaccmaa

namespace Go.Proofs.Ytilndhmegaccmaa
open Go.RowKit

def ctorAt (xs : List Dt) (t : Ty) (k : Int) : Option Kt := (ctorsAt xs t.d)[k.toNat]?
/-- the types of the arguments of constructor k for type t -/
def argsOf (xs : List Dt) (t : Ty) (k : Int) : List Ty := match ctorAt xs t k with | some c => argsL c t.i | none => []
def argTypesL (xs : List Dt) (t : Ty) (k : Int) : List Ty := if hasB (ctorsOfL xs t) k = true then argsOf xs t k else []
theorem argsOf_get {xs : List Dt} {d k : Nat} {i : Int} (hd : d < xs.length) (hk : k < xs[d].ctors.length) : argsOf xs ⟨(d : Int), i⟩ (k : Int) = argsL xs[d].ctors[k] i := by
  unfold argsOf ctorAt
  simp only
  rw [ctorsAt_get hd, Int.toNat_natCast, List.getElem?_eq_getElem hk]
theorem mem_fitTo {cs : List Kt} {i : Int} {m : Nat} {n : Int} (h : n ∈ fitTo cs i m) : ∃ k : Nat, n = (k : Int) ∧ k < m := by
  unfold fitTo at h
  obtain ⟨k, hk, rfl⟩ := List.mem_map.1 h
  have := (List.mem_filter.1 hk).1
  exact ⟨k, rfl, by simpa using this⟩
theorem mem_ctorsL {xs : List Dt} {t : Ty} {n : Int} (ht : InWorld xs.length t) (h : n ∈ ctorsL xs t) : ∃ d k : Nat, t.d = (d : Int) ∧ n = (k : Int) ∧ ∃ hd : d < xs.length, k < xs[d].ctors.length := by
  rcases ht with hd | ⟨d, hd, hdl⟩
  · rw [ctorsL_int hd] at h; cases h
  · obtain ⟨t1, t2⟩ := t
    simp only at hd
    subst hd
    rw [ctorsL_data hdl] at h
    obtain ⟨k, rfl, hk⟩ := mem_fitTo h
    exact ⟨d, k, rfl, rfl, hdl, hk⟩
theorem argTypesL_no {xs : List Dt} {t : Ty} {k : Int} (h : hasB (ctorsOfL xs t) k = false) : argTypesL xs t k = [] := if_neg (by simp [h])
theorem argTypesL_yes {xs : List Dt} {t : Ty} {k : Int} (h : hasB (ctorsOfL xs t) k = true) : argTypesL xs t k = argsOf xs t k ∧ WorldOK xs ∧ ∃ (d m : Nat) (hd : d < xs.length), t.d = (d : Int) ∧ k = (m : Int) ∧ m < xs[d].ctors.length := by
  refine ⟨if_pos h, ?_⟩
  rw [hasB_iff] at h
  unfold ctorsOfL at h
  split at h
  · rename_i hv
    obtain ⟨hw, hto⟩ := typeValid_split hv
    obtain ⟨d, m, h1, h2, hd, hm⟩ := mem_ctorsL (typeOkB_in hto) h
    exact ⟨hw, d, m, hd, h1, h2, hm⟩
  · cases h
theorem argTypesL_len (xs : List Dt) (t : Ty) (k : Int) : (argTypesL xs t k).length ≤ 3 := by
  cases h : hasB (ctorsOfL xs t) k with
  | false => rw [argTypesL_no h]; simp
  | true =>
    obtain ⟨e, hw, d, m, hd, h1, h2, hm⟩ := argTypesL_yes h
    obtain ⟨t1, t2⟩ := t
    simp only at h1
    subst h1 h2
    rw [e, argsOf_get hd hm, argsL_len]
    exact (hw.ctor hd hm).args

end Go.Proofs.Ytilndhmegaccmaa

namespace Go.Proofs.Ytilndhmegaccmaa
open Go.RowKit

def slotOf (t : Ty) : Nat := t.d.toNat * 4 + t.i.toNat
def tyAt (s : Nat) : Ty := ⟨((s / 4 : Nat) : Int), ((s % 4 : Nat) : Int)⟩
/-- the depth that a table has for a type, 0 for none -/
def depthIn (tab : List Int) (t : Ty) : Int := if t.d = -1 then 1 else tab.getD (slotOf t) 0
def mostGo (tab : List Int) : Int → List Ty → Int
  | m, [] => m + 1
  | m, a :: ls => if depthIn tab a = 0 then 0 else mostGo tab (max m (depthIn tab a)) ls
def mostIn (xs : List Dt) (tab : List Int) (t : Ty) (k : Int) : Int := mostGo tab 0 (argsOf xs t k)
/-- one constructor of slot s looked at -/
def better (tab : List Int) (s : Nat) (n : Int) : Bool := decide (0 < n) && (decide (tab.getD s 0 = 0) || decide (n < tab.getD s 0))
def putIf (tab : List Int) (s : Nat) (n : Int) : List Int := if better tab s n = true then tab.set s n else tab
def slotGo (xs : List Dt) (s : Nat) (tab : List Int) (ks : List Int) : List Int := ks.foldl (fun tab k => putIf tab s (mostIn xs tab (tyAt s) k)) tab
def sweepTo (xs : List Dt) (tab : List Int) (s : Nat) : List Int := (List.range s).foldl (fun tab s => slotGo xs s tab (ctorsL xs (tyAt s))) tab
def sweep (xs : List Dt) (tab : List Int) : List Int := sweepTo xs tab (xs.length * 4)
def sweeps (xs : List Dt) : Nat → List Int
  | 0 => List.replicate (xs.length * 4) 0
  | n + 1 => sweep xs (sweeps xs n)
def tableL (xs : List Dt) : List Int := sweeps xs (xs.length * 4 + 1)

theorem putIf_length (tab : List Int) (s : Nat) (n : Int) : (putIf tab s n).length = tab.length := by unfold putIf; split <;> simp
theorem slotGo_nil (xs : List Dt) (s : Nat) (tab : List Int) : slotGo xs s tab [] = tab := rfl
theorem slotGo_cons (xs : List Dt) (s : Nat) (tab : List Int) (k : Int) (ks : List Int) : slotGo xs s tab (k :: ks) = slotGo xs s (putIf tab s (mostIn xs tab (tyAt s) k)) ks := rfl
theorem slotGo_snoc (xs : List Dt) (s : Nat) (tab : List Int) (ks : List Int) (k : Int) : slotGo xs s tab (ks ++ [k]) = putIf (slotGo xs s tab ks) s (mostIn xs (slotGo xs s tab ks) (tyAt s) k) := by
  unfold slotGo; rw [List.foldl_append]; rfl
theorem slotGo_length (xs : List Dt) (s : Nat) : ∀ (ks : List Int) (tab : List Int), (slotGo xs s tab ks).length = tab.length
  | [], tab => rfl
  | k :: ks, tab => by rw [slotGo_cons, slotGo_length xs s ks, putIf_length]
theorem sweepTo_zero (xs : List Dt) (tab : List Int) : sweepTo xs tab 0 = tab := rfl
theorem sweepTo_succ (xs : List Dt) (tab : List Int) (s : Nat) : sweepTo xs tab (s + 1) = slotGo xs s (sweepTo xs tab s) (ctorsL xs (tyAt s)) := by
  unfold sweepTo; rw [List.range_succ, List.foldl_append]; rfl
theorem sweepTo_length (xs : List Dt) (tab : List Int) : ∀ s, (sweepTo xs tab s).length = tab.length
  | 0 => rfl
  | s + 1 => by rw [sweepTo_succ, slotGo_length, sweepTo_length xs tab s]
theorem sweeps_length (xs : List Dt) : ∀ n, (sweeps xs n).length = xs.length * 4
  | 0 => by simp [sweeps]
  | n + 1 => by show (sweepTo xs _ _).length = _; rw [sweepTo_length, sweeps_length xs n]

/-! ### Types with a value of a depth -/
def hasD (xs : List Dt) : Nat → Ty → Prop
  | 0, _ => False
  | n + 1, t => t.d = -1 ∨ ∃ k ∈ ctorsL xs t, ∀ a ∈ argsOf xs t k, hasD xs n a
theorem hasD_mono {xs : List Dt} : ∀ {n : Nat} {t : Ty}, hasD xs n t → hasD xs (n + 1) t
  | 0, _, h => h.elim
  | n + 1, t, h => by
    rcases h with h | ⟨k, hk, h⟩
    · exact .inl h
    · exact .inr ⟨k, hk, fun a ha => hasD_mono (h a ha)⟩
theorem hasD_le {xs : List Dt} {n m : Nat} {t : Ty} (h : hasD xs n t) (hm : n ≤ m) : hasD xs m t := by
  induction hm with
  | refl => exact h
  | step _ ih => exact hasD_mono ih
/-- a type of values in the world -/
def TyIn (n : Nat) (t : Ty) : Prop := t.d = -1 ∨ ∃ d i : Nat, t = ⟨(d : Int), (i : Int)⟩ ∧ d < n ∧ i < 4
theorem TyIn.inWorld {n : Nat} {t : Ty} (h : TyIn n t) : InWorld n t := by
  rcases h with h | ⟨d, i, rfl, h1, h2⟩
  · exact .inl h
  · exact .inr ⟨d, rfl, h1⟩
theorem typeOkB_tyIn {n : Nat} {t : Ty} (h : typeOkB n t = true) : TyIn n t := by
  unfold typeOkB at h
  by_cases e : t.d = -1
  · exact .inl e
  · rw [if_neg e] at h
    simp [withinB] at h
    refine .inr ⟨t.d.toNat, t.i.toNat, ?_, by omega, by omega⟩
    obtain ⟨t1, t2⟩ := t
    simp only at h ⊢
    congr 1 <;> omega
theorem slotOf_mk (d i : Nat) : slotOf ⟨(d : Int), (i : Int)⟩ = d * 4 + i := by unfold slotOf; simp
theorem tyAt_mk {d i : Nat} (h : i < 4) : tyAt (d * 4 + i) = ⟨(d : Int), (i : Int)⟩ := by
  unfold tyAt
  rw [show (d * 4 + i) / 4 = d by omega, show (d * 4 + i) % 4 = i by omega]
theorem TyIn.slot {n : Nat} {t : Ty} (h : TyIn n t) (hd : ¬ t.d = -1) : slotOf t < n * 4 ∧ tyAt (slotOf t) = t := by
  rcases h with h | ⟨d, i, rfl, h1, h2⟩
  · exact absurd h hd
  · rw [slotOf_mk, tyAt_mk h2]
    exact ⟨by omega, rfl⟩
theorem tyAt_in {n s : Nat} (h : s < n * 4) : TyIn n (tyAt s) := .inr ⟨s / 4, s % 4, rfl, by omega, by omega⟩
theorem tyAt_slot (s : Nat) : slotOf (tyAt s) = s := by
  unfold tyAt
  rw [slotOf_mk]
  omega
theorem tyAt_not (s : Nat) : ¬ (tyAt s).d = -1 := by unfold tyAt; simp only; omega
theorem argTy_in {n : Nat} {c : Kt} (hc : KtOk n c) {i : Int} (h0 : 0 ≤ i) (h3 : i ≤ 3) {a : Ty} (ha : a ∈ argsL c i) : TyIn n a := by
  unfold argsL at ha
  obtain ⟨b, hb, rfl⟩ := List.mem_map.1 ha
  have hok := hc.all b hb
  have hr : 0 ≤ resIdx c i ∧ resIdx c i ≤ 3 := by
    unfold resIdx
    split
    · exact ⟨h0, h3⟩
    · exact ⟨hc.lo, hc.hi⟩
  unfold argOkB at hok
  cases q : (b.i == -1) with
  | true =>
    rw [argTy_yes q]
    by_cases e : b.d = -1
    · exact .inl e
    · rw [if_neg e] at hok
      simp [withinB] at hok
      refine .inr ⟨b.d.toNat, (resIdx c i).toNat, ?_, by omega, by omega⟩
      congr 1 <;> omega
  | false =>
    rw [argTy_no q]
    have q' : ¬ b.i = -1 := by simpa using q
    by_cases e : b.d = -1
    · exact .inl e
    · rw [if_neg e] at hok
      simp [withinB] at hok
      refine .inr ⟨b.d.toNat, b.i.toNat, ?_, by omega, by omega⟩
      obtain ⟨b1, b2⟩ := b
      simp only at hok q' ⊢
      congr 1 <;> omega
theorem argsOf_in {xs : List Dt} (hw : WorldOK xs) {t : Ty} (ht : TyIn xs.length t) {k : Int} (hk : k ∈ ctorsL xs t) {a : Ty} (ha : a ∈ argsOf xs t k) : TyIn xs.length a := by
  rcases ht with h | ⟨d, i, rfl, h1, h2⟩
  · rw [ctorsL_int h] at hk; cases hk
  · obtain ⟨d', m, e1, rfl, hd, hm⟩ := mem_ctorsL (.inr ⟨d, rfl, h1⟩) hk
    obtain rfl : d = d' := Int.ofNat.inj e1
    rw [argsOf_get hd hm] at ha
    exact argTy_in (hw.ctor hd hm) (by omega) (by omega) ha

/-! ### What an entry says -/
theorem mostGo_zero {tab : List Int} : ∀ {ls : List Ty} {m : Int}, 0 ≤ m → mostGo tab m ls = 0 → ∃ a ∈ ls, depthIn tab a = 0
  | [], m, h0, h => by simp only [mostGo] at h; omega
  | a :: ls, m, h0, h => by
    simp only [mostGo] at h
    split at h
    · rename_i e; exact ⟨a, by simp, e⟩
    · obtain ⟨b, hb, e⟩ := mostGo_zero (by omega) h
      exact ⟨b, by simp [hb], e⟩
theorem mostGo_pos {tab : List Int} (hp : ∀ a, 0 ≤ depthIn tab a) : ∀ {ls : List Ty} {m : Int}, 0 ≤ m → (∀ a ∈ ls, depthIn tab a ≠ 0) → m < mostGo tab m ls ∧ ∀ a ∈ ls, depthIn tab a < mostGo tab m ls
  | [], m, h0, _ => by simp only [mostGo]; exact ⟨by omega, fun a h => by cases h⟩
  | a :: ls, m, h0, h => by
    simp only [mostGo]
    rw [if_neg (h a (by simp))]
    have h1 := mostGo_pos hp (m := max m (depthIn tab a)) (ls := ls) (by omega) fun b hb => h b (by simp [hb])
    refine ⟨by omega, fun b hb => ?_⟩
    rcases List.mem_cons.1 hb with rfl | hb
    · omega
    · exact h1.2 b hb
theorem mostGo_ne {tab : List Int} : ∀ {ls : List Ty} {m : Int}, mostGo tab m ls ≠ 0 → ∀ a ∈ ls, depthIn tab a ≠ 0
  | [], _, _, a, h => by cases h
  | a :: ls, m, h, b, hb => by
    simp only [mostGo] at h
    split at h
    · exact absurd rfl h
    · rename_i e
      rcases List.mem_cons.1 hb with rfl | hb
      · exact e
      · exact mostGo_ne h b hb
theorem mostGo_le {tab : List Int} {N : Int} : ∀ {ls : List Ty} {m : Int}, m ≤ N → (∀ a ∈ ls, depthIn tab a ≠ 0 ∧ depthIn tab a ≤ N) → mostGo tab m ls ≤ N + 1
  | [], m, h0, _ => by simp only [mostGo]; omega
  | a :: ls, m, h0, h => by
    simp only [mostGo]
    rw [if_neg (h a (by simp)).1]
    exact mostGo_le (by have := (h a (by simp)).2; omega) fun b hb => h b (by simp [hb])

/-- a table that is right so far: every entry that is not 0 is the depth of some value -/
structure Sound (xs : List Dt) (tab : List Int) : Prop where
  pos : ∀ s, 0 ≤ tab.getD s 0
  has : ∀ s, s < xs.length * 4 → tab.getD s 0 ≠ 0 → hasD xs (tab.getD s 0).toNat (tyAt s)
  len : tab.length = xs.length * 4
theorem Sound.dpos {xs : List Dt} {tab : List Int} (h : Sound xs tab) (a : Ty) : 0 ≤ depthIn tab a := by
  unfold depthIn; split
  · omega
  · exact h.pos _
theorem Sound.dhas {xs : List Dt} {tab : List Int} (h : Sound xs tab) {a : Ty} (ha : TyIn xs.length a) (hn : depthIn tab a ≠ 0) : hasD xs (depthIn tab a).toNat a := by
  unfold depthIn at hn ⊢
  split
  · rename_i e; exact .inl e
  · rename_i e
    rw [if_neg e] at hn
    obtain ⟨h1, h2⟩ := ha.slot e
    have := h.has _ h1 hn
    rwa [h2] at this
theorem getD_set (tab : List Int) (s r : Nat) (n : Int) (hs : s < tab.length) : (tab.set s n).getD r 0 = if r = s then n else tab.getD r 0 := by
  unfold List.getD
  by_cases h : r = s
  · subst h; rw [if_pos rfl, List.getElem?_set_self hs]; rfl
  · rw [if_neg h, List.getElem?_set_ne (fun e => h e.symm)]
theorem better_iff {tab : List Int} {s : Nat} {n : Int} : better tab s n = true ↔ 0 < n ∧ (tab.getD s 0 = 0 ∨ n < tab.getD s 0) := by
  unfold better; simp
theorem Sound.put {xs : List Dt} (hw : WorldOK xs) {tab : List Int} (h : Sound xs tab) {s : Nat} (hs : s < xs.length * 4) {k : Int} (hk : k ∈ ctorsL xs (tyAt s)) : Sound xs (putIf tab s (mostIn xs tab (tyAt s) k)) := by
  unfold putIf
  split
  · rename_i hb
    obtain ⟨h1, h2⟩ := better_iff.1 hb
    have hs' : s < tab.length := by rw [h.len]; exact hs
    refine ⟨fun r => ?_, fun r hr hne => ?_, by rw [List.length_set]; exact h.len⟩
    · rw [getD_set _ _ _ _ hs']; split
      · omega
      · exact h.pos r
    · rw [getD_set _ _ _ _ hs'] at hne ⊢
      split at hne
      · rename_i e
        subst e
        rw [if_pos rfl]
        have hne2 : mostGo tab 0 (argsOf xs (tyAt r) k) ≠ 0 := by unfold mostIn at h1; omega
        have hd := mostGo_ne hne2
        have hp := mostGo_pos h.dpos (m := 0) (by omega) hd
        obtain ⟨n, hn⟩ : ∃ n : Nat, (mostIn xs tab (tyAt r) k).toNat = n + 1 := ⟨(mostIn xs tab (tyAt r) k).toNat - 1, by omega⟩
        rw [hn]
        refine .inr ⟨k, hk, fun a ha => ?_⟩
        have hai := argsOf_in hw (tyAt_in hr) hk ha
        refine hasD_le (h.dhas hai (hd a ha)) ?_
        have := hp.2 a ha
        unfold mostIn at hn
        omega
      · rename_i e
        rw [if_neg e]
        exact h.has r hr hne
  · exact h
theorem Sound.slot {xs : List Dt} (hw : WorldOK xs) {s : Nat} (hs : s < xs.length * 4) : ∀ {ks : List Int} {tab : List Int}, (∀ k ∈ ks, k ∈ ctorsL xs (tyAt s)) → Sound xs tab → Sound xs (slotGo xs s tab ks)
  | [], tab, _, h => h
  | k :: ks, tab, hk, h => by
    rw [slotGo_cons]
    exact Sound.slot hw hs (fun x hx => hk x (by simp [hx])) (h.put hw hs (hk k (by simp)))
theorem Sound.to {xs : List Dt} (hw : WorldOK xs) {tab : List Int} (h : Sound xs tab) : ∀ {s : Nat}, s ≤ xs.length * 4 → Sound xs (sweepTo xs tab s)
  | 0, _ => h
  | s + 1, hs => by rw [sweepTo_succ]; exact Sound.slot hw (by omega) (fun k hk => hk) (Sound.to hw h (by omega))
theorem sound_sweeps {xs : List Dt} (hw : WorldOK xs) : ∀ n, Sound xs (sweeps xs n)
  | 0 => ⟨fun s => by simp only [sweeps, List.getD]; rcases Nat.lt_or_ge s (xs.length * 4) with h | h <;> simp [h], fun s hs hn => by simp [sweeps, List.getD, hs] at hn, by simp [sweeps]⟩
  | n + 1 => (sound_sweeps hw n).to hw (Nat.le_refl _)

/-! ### Entries become no worse -/
def Le (t t' : List Int) : Prop := ∀ s, t.getD s 0 ≠ 0 → t'.getD s 0 ≠ 0 ∧ t'.getD s 0 ≤ t.getD s 0
theorem Le.refl (t : List Int) : Le t t := fun s h => ⟨h, Int.le_refl _⟩
theorem Le.trans {a b c : List Int} (h : Le a b) (k : Le b c) : Le a c := fun s hs => ⟨(k s (h s hs).1).1, Int.le_trans (k s (h s hs).1).2 (h s hs).2⟩
theorem le_put (tab : List Int) (s : Nat) (hs : s < tab.length) (n : Int) : Le tab (putIf tab s n) := by
  unfold putIf
  split
  · rename_i hb
    obtain ⟨h1, h2⟩ := better_iff.1 hb
    intro r hr
    rw [getD_set _ _ _ _ hs]
    split
    · rename_i e; subst e; exact ⟨by omega, by omega⟩
    · exact ⟨hr, Int.le_refl _⟩
  · exact Le.refl _
theorem le_slot (xs : List Dt) (s : Nat) : ∀ (ks : List Int) (tab : List Int), s < tab.length → Le tab (slotGo xs s tab ks)
  | [], tab, _ => Le.refl _
  | k :: ks, tab, hs => by
    rw [slotGo_cons]
    exact (le_put tab s hs _).trans (le_slot xs s ks _ (by rw [putIf_length]; exact hs))
theorem le_to (xs : List Dt) (tab : List Int) : ∀ (s : Nat), s ≤ tab.length → Le tab (sweepTo xs tab s)
  | 0, _ => Le.refl _
  | s + 1, hs => by rw [sweepTo_succ]; exact (le_to xs tab s (by omega)).trans (le_slot xs s _ _ (by rw [sweepTo_length]; omega))
theorem le_step (xs : List Dt) (tab : List Int) (r : Nat) : ∀ (s : Nat), r ≤ s → s ≤ tab.length → Le (sweepTo xs tab r) (sweepTo xs tab s) := by
  intro s hr
  induction hr with
  | refl => intro _; exact Le.refl _
  | step hr ih => intro hs; rw [sweepTo_succ]; exact (ih (by omega)).trans (le_slot xs _ _ _ (by rw [sweepTo_length]; omega))

/-- every type with a value of depth n at most has an entry of n at most -/
def Done (xs : List Dt) (tab : List Int) (n : Nat) : Prop := ∀ s, s < xs.length * 4 → hasD xs n (tyAt s) → tab.getD s 0 ≠ 0 ∧ tab.getD s 0 ≤ n
theorem Done.le {xs : List Dt} {t t' : List Int} {n : Nat} (h : Done xs t n) (hl : Le t t') : Done xs t' n := fun s hs hh => ⟨(hl s (h s hs hh).1).1, Int.le_trans (hl s (h s hs hh).1).2 (h s hs hh).2⟩
theorem put_done {tab : List Int} {s : Nat} (hs : s < tab.length) (hp : 0 ≤ tab.getD s 0) {n : Int} (h0 : 0 < n) : (putIf tab s n).getD s 0 ≠ 0 ∧ (putIf tab s n).getD s 0 ≤ n := by
  unfold putIf
  split
  · rename_i hb
    rw [getD_set _ _ _ _ hs, if_pos rfl]; omega
  · rename_i hb
    have : ¬ (0 < n ∧ (tab.getD s 0 = 0 ∨ n < tab.getD s 0)) := fun h => hb (better_iff.2 h)
    omega
theorem slot_done {xs : List Dt} (hw : WorldOK xs) {n s : Nat} (hs : s < xs.length * 4) {k0 : Int} (ha : ∀ a ∈ argsOf xs (tyAt s) k0, hasD xs n a) : ∀ {ks : List Int} {tab : List Int}, (∀ k ∈ ks, k ∈ ctorsL xs (tyAt s)) → k0 ∈ ks → Sound xs tab → Done xs tab n → (slotGo xs s tab ks).getD s 0 ≠ 0 ∧ (slotGo xs s tab ks).getD s 0 ≤ n + 1
  | [], tab, _, h, _, _ => by cases h
  | k :: ks, tab, hks, hk, hsd, hd => by
    have hsl : s < tab.length := by rw [hsd.len]; exact hs
    rw [slotGo_cons]
    by_cases e : k0 = k
    · subst e
      have hk0 := hks k0 (by simp)
      have hall : ∀ a ∈ argsOf xs (tyAt s) k0, depthIn tab a ≠ 0 ∧ depthIn tab a ≤ n := fun a hm => by
        have hai := argsOf_in hw (tyAt_in hs) hk0 hm
        unfold depthIn
        split
        · have := ha a hm
          cases n with
          | zero => exact this.elim
          | succ n => omega
        · rename_i hne
          obtain ⟨q1, q2⟩ := hai.slot hne
          exact hd _ q1 (by rw [q2]; exact ha a hm)
      have h1 := mostGo_pos hsd.dpos (m := 0) (by omega) fun a hm => (hall a hm).1
      have h2 := mostGo_le (N := n) (m := 0) (by omega) hall
      have h3 := put_done hsl (hsd.pos s) (n := mostIn xs tab (tyAt s) k0) h1.1
      have h4 := le_slot xs s ks (putIf tab s (mostIn xs tab (tyAt s) k0)) (by rw [putIf_length]; exact hsl) s h3.1
      have h5 : mostIn xs tab (tyAt s) k0 ≤ n + 1 := h2
      exact ⟨h4.1, by omega⟩
    · have hk' : k0 ∈ ks := by
        rcases List.mem_cons.1 hk with h | h
        · exact absurd h e
        · exact h
      exact slot_done hw hs ha (fun x hx => hks x (by simp [hx])) hk' (hsd.put hw hs (hks k (by simp))) (hd.le (le_put tab s hsl _))
theorem sweep_done {xs : List Dt} (hw : WorldOK xs) {tab : List Int} {n : Nat} (hsd : Sound xs tab) (hd : Done xs tab n) : Done xs (sweep xs tab) (n + 1) := by
  intro s hs hh
  rcases hh with h | ⟨k, hk, ha⟩
  · exact absurd h (tyAt_not s)
  · have h1 := slot_done hw hs ha (fun k hk => hk) hk (hsd.to hw (by omega : s ≤ xs.length * 4)) (hd.le (le_to xs tab s (by rw [hsd.len]; omega)))
    rw [← sweepTo_succ] at h1
    have h2 := le_step xs tab (s + 1) (xs.length * 4) (by omega) (by rw [hsd.len]; omega) s h1.1
    exact ⟨h2.1, by show (sweepTo xs tab (xs.length * 4)).getD s 0 ≤ _; omega⟩
theorem done_sweeps {xs : List Dt} (hw : WorldOK xs) : ∀ n, Done xs (sweeps xs n) n
  | 0 => fun s _ h => h.elim
  | n + 1 => sweep_done hw (sound_sweeps hw n) (done_sweeps hw n)
theorem le_sweeps {xs : List Dt} (n : Nat) : Le (sweeps xs n) (sweeps xs (n + 1)) := le_to xs _ _ (by rw [sweeps_length]; exact Nat.le_refl _)
theorem le_sweeps' {xs : List Dt} {n m : Nat} (h : n ≤ m) : Le (sweeps xs n) (sweeps xs m) := by
  induction h with
  | refl => exact Le.refl _
  | step _ ih => exact ih.trans (le_sweeps _)
end Go.Proofs.Ytilndhmegaccmaa

namespace Go.Proofs.Ytilndhmegaccmaa
open Go.RowKit

theorem ArrV.drew' {w : World} {vs : List V} {x : Value} {F : List Nat} (h : Arr w (VR w) vs x F) : Arr w.drew (VR w.drew) vs x F := ArrV.mono (w := w) h (fun _ _ => rfl)
theorem ArrV.at {w0 w : World} {b off n cap : Nat} {F : List Nat} {xs : List V} (h : Arr w0 (VR w0) xs (.slice (some ⟨b, off, none⟩) n cap) F) (hF : Under w0.heap.size F) (hB : Below w0.heap.size w0 w) (i : Nat) (hi : i < xs.length) :
    ∃ A1 cap1 G, b < w.heap.size ∧ w.cell? ⟨b, off + i * 3, none⟩ = some (.int .i64 xs[i].c) ∧ w.cell? ⟨b, off + i * 3 + 1, none⟩ = some (.int .i64 xs[i].n) ∧ w.cell? ⟨b, off + i * 3 + 2, none⟩ = some (.slice A1 xs[i].ks.length cap1) ∧
      Hid (VR w0 xs[i] [.int .i64 xs[i].c, .int .i64 xs[i].n, .slice A1 xs[i].ks.length cap1] G) ∧ Hid (Under w0.heap.size G) ∧ (∀ b ∈ G, b ∈ F) ∧ xs[i].ks.length ≤ cap1 ∧ cap1 ≤ 9223372036854775807 := by
  obtain ⟨b', off', cs, G, e, hb, hcs, hv, hG⟩ := h.get VR_len hi
  cases e
  have hbl := hF _ hb
  have hc := hcs.same (hB.block _ hbl)
  obtain ⟨kv, rfl, ha⟩ := (VR_iff _ _ _).1 hv
  obtain ⟨A1, cap1, rfl, h1, h2⟩ := ha.form
  exact ⟨A1, cap1, G, Nat.lt_of_lt_of_le hbl hB.size, hc 0 _ rfl, hc 1 _ rfl, hc 2 _ rfl, hv, hF.sub hG, hG, h1, h2⟩
/-- the nodes of a value -/
def nodes (v : V) : Nat := 1 + v.size
theorem nodes_ks (v : V) : nodes v = 1 + V.sizes v.ks := by obtain ⟨c, n, ks⟩ := v; rfl
theorem sizes_step {l : List V} {i : Nat} (h : i < l.length) : V.sizes (l.take (i + 1)) = V.sizes (l.take i) + nodes l[i] := by
  rw [V.sizes_eq, V.sizes_eq, V.subs_take_succ l i h, List.length_take, List.length_take]
  unfold nodes
  omega
theorem sizes_take_le (l : List V) (i : Nat) : V.sizes (l.take i) ≤ V.sizes l := by
  rw [V.sizes_eq, V.sizes_eq, List.length_take]
  have := V.subs_take_le l i
  omega
def zipAll (f : Ty → V → Bool) : List Ty → List V → Bool
  | a :: ls, k :: ks => f a k && zipAll f ls ks
  | _, _ => true
theorem zipAll_step {f : Ty → V → Bool} {ls : List Ty} {ks : List V} {i : Nat} (h1 : i < ls.length) (h2 : i < ks.length) : zipAll f (ls.drop i) (ks.drop i) = (f ls[i] ks[i] && zipAll f (ls.drop (i + 1)) (ks.drop (i + 1))) := by
  rw [List.drop_eq_getElem_cons h1, List.drop_eq_getElem_cons h2, zipAll]
theorem zipAll_end {f : Ty → V → Bool} {ls : List Ty} {ks : List V} {i : Nat} (h1 : ls.length ≤ i) : zipAll f (ls.drop i) (ks.drop i) = true := by
  rw [List.drop_of_length_le h1]
  cases ks.drop i <;> rfl
def isNum (v : V) : Bool := (v.c == -1) && (withinB v.n 0 9 && decide (v.ks.length = 0))
/-- v is a value of type t, of depth d at most -/
def fitsV (xs : List Dt) : Nat → Ty → V → Bool
  | 0, _, _ => false
  | d + 1, t, v => if t.d = -1 then isNum v else (v.n == 0) && (hasB (ctorsL xs t) v.c && (decide (v.ks.length = (argsOf xs t v.c).length) && zipAll (fitsV xs d) (argsOf xs t v.c) v.ks))
theorem fitsV_int {xs : List Dt} {d : Nat} {t : Ty} {v : V} (h : t.d = -1) : fitsV xs (d + 1) t v = isNum v := by rw [fitsV, if_pos h]
theorem fitsV_data {xs : List Dt} {d : Nat} {t : Ty} {v : V} (h : ¬ t.d = -1) : fitsV xs (d + 1) t v = ((v.n == 0) && (hasB (ctorsL xs t) v.c && (decide (v.ks.length = (argsOf xs t v.c).length) && zipAll (fitsV xs d) (argsOf xs t v.c) v.ks))) := by rw [fitsV, if_neg h]
def valueOkB (xs : List Dt) (t : Ty) (v : V) : Bool := fitsV xs 10 t v && decide (nodes v ≤ 60)
def valueValidB (xs : List Dt) (t : Ty) (v : V) : Bool := typeValidB xs t && valueOkB xs t v
end Go.Proofs.Ytilndhmegaccmaa

namespace Go.Proofs.Ytilndhmegaccmaa
open Go.RowKit

def numV (n : Nat) : V := ⟨-1, (n : Int), []⟩
def numsL (k : Nat) : List V := (List.range k).map numV
theorem numsL_succ (k : Nat) : numsL (k + 1) = numsL k ++ [numV k] := by unfold numsL; rw [List.range_succ, List.map_append]; rfl
theorem numsL_len (k : Nat) : (numsL k).length = k := by unfold numsL; rw [List.length_map, List.length_range]
/-- v with each of kids behind its own -/
def growK (c : Int) (v : V) (kids : List V) : List V := kids.map fun k => ⟨c, 0, v.ks ++ [k]⟩
theorem growK_len (c : Int) (v : V) (kids : List V) : (growK c v kids).length = kids.length := List.length_map _
def growTo (c : Int) (list kids : List V) (p : Nat) : List V := (list.take p).flatMap fun v => growK c v kids
def growV (c : Int) (list kids : List V) : List V := list.flatMap fun v => growK c v kids
theorem growTo_zero (c : Int) (list kids : List V) : growTo c list kids 0 = [] := rfl
theorem growTo_all (c : Int) (list kids : List V) {p : Nat} (h : list.length ≤ p) : growTo c list kids p = growV c list kids := by unfold growTo growV; rw [List.take_of_length_le h]
theorem growTo_succ (c : Int) (list kids : List V) (p : Nat) (h : p < list.length) : growTo c list kids (p + 1) = growTo c list kids p ++ growK c list[p] kids := by
  unfold growTo
  rw [take_snoc' list p h, List.flatMap_append]
  simp
theorem growK_succ (c : Int) (v : V) (kids : List V) (q : Nat) (h : q < kids.length) : growK c v (kids.take (q + 1)) = growK c v (kids.take q) ++ [⟨c, 0, v.ks ++ [kids[q]]⟩] := by
  unfold growK
  rw [take_snoc' kids q h, List.map_append]
  rfl
theorem growV_len (c : Int) (list kids : List V) : (growV c list kids).length = list.length * kids.length := by
  unfold growV
  induction list with
  | nil => simp
  | cons v l ih => rw [List.flatMap_cons, List.length_append, ih, growK_len, List.length_cons, Nat.succ_mul]; omega
theorem growTo_len (c : Int) (list kids : List V) (p : Nat) (h : p ≤ list.length) : (growTo c list kids p).length = p * kids.length := by
  have := growV_len c (list.take p) kids
  rw [List.length_take, Nat.min_eq_left h] at this
  exact this
def growAll (c : Int) (ls : List (List V)) : List V := ls.foldl (growV c) [⟨c, 0, []⟩]
theorem growAll_snoc (c : Int) (ls : List (List V)) (l : List V) : growAll c (ls ++ [l]) = growV c (growAll c ls) l := by unfold growAll; rw [List.foldl_append]; rfl
def valsL (xs : List Dt) : Nat → Ty → List V
  | 0, _ => []
  | d + 1, t => if t.d = -1 then numsL 10 else (ctorsL xs t).flatMap fun c => growAll c ((argsOf xs t c).map (valsL xs d))
theorem valsL_zero (xs : List Dt) (t : Ty) : valsL xs 0 t = [] := rfl
theorem valsL_int {xs : List Dt} {d : Nat} {t : Ty} (h : t.d = -1) : valsL xs (d + 1) t = numsL 10 := by rw [valsL, if_pos h]
/-- the lists of the first j arguments, combined -/
def argTo (xs : List Dt) (d : Nat) (c : Int) (as' : List Ty) (j : Nat) : List V := growAll c ((as'.take j).map (valsL xs d))
theorem argTo_zero (xs : List Dt) (d : Nat) (c : Int) (as' : List Ty) : argTo xs d c as' 0 = [⟨c, 0, []⟩] := rfl
theorem argTo_succ (xs : List Dt) (d : Nat) (c : Int) (as' : List Ty) (j : Nat) (h : j < as'.length) : argTo xs d c as' (j + 1) = growV c (argTo xs d c as' j) (valsL xs d as'[j]) := by
  unfold argTo
  rw [take_snoc' as' j h, List.map_append, List.map_cons, List.map_nil, growAll_snoc]
def blockL (xs : List Dt) (d : Nat) (t : Ty) (c : Int) : List V := growAll c ((argsOf xs t c).map (valsL xs d))
theorem argTo_all (xs : List Dt) (d : Nat) (t : Ty) (c : Int) {j : Nat} (h : (argsOf xs t c).length ≤ j) : argTo xs d c (argsOf xs t c) j = blockL xs d t c := by unfold argTo blockL; rw [List.take_of_length_le h]
def valsTo (xs : List Dt) (d : Nat) (t : Ty) (i : Nat) : List V := ((ctorsL xs t).take i).flatMap (blockL xs d t)
theorem valsTo_zero (xs : List Dt) (d : Nat) (t : Ty) : valsTo xs d t 0 = [] := rfl
theorem valsTo_succ (xs : List Dt) (d : Nat) (t : Ty) (i : Nat) (h : i < (ctorsL xs t).length) : valsTo xs d t (i + 1) = valsTo xs d t i ++ blockL xs d t (ctorsL xs t)[i] := by
  unfold valsTo
  rw [take_snoc' _ i h, List.flatMap_append]
  simp
theorem valsTo_all {xs : List Dt} {d : Nat} {t : Ty} (h : ¬ t.d = -1) {i : Nat} (hi : (ctorsL xs t).length ≤ i) : valsTo xs d t i = valsL xs (d + 1) t := by
  unfold valsTo
  rw [List.take_of_length_le hi, valsL, if_neg h]
  rfl
theorem flatMap_take_len {α β : Type} (f : α → List β) (l : List α) (i : Nat) : ((l.take i).flatMap f).length ≤ (l.flatMap f).length := by
  conv => rhs; rw [← List.take_append_drop i l, List.flatMap_append, List.length_append]
  omega
theorem valsTo_len {xs : List Dt} {d : Nat} {t : Ty} (h : ¬ t.d = -1) (i : Nat) : (valsTo xs d t i).length ≤ (valsL xs (d + 1) t).length := by
  rw [← valsTo_all h (Nat.le_refl _)]
  unfold valsTo
  rw [List.take_length]
  exact flatMap_take_len _ _ _
theorem blockL_len {xs : List Dt} {d : Nat} {t : Ty} (h : ¬ t.d = -1) {i : Nat} (hi : i < (ctorsL xs t).length) : (valsTo xs d t i).length + (blockL xs d t (ctorsL xs t)[i]).length ≤ (valsL xs (d + 1) t).length := by
  have := valsTo_len (xs := xs) (d := d) h (i + 1)
  rw [valsTo_succ _ _ _ _ hi, List.length_append] at this
  exact this
theorem argTo_len_succ (xs : List Dt) (d : Nat) (c : Int) (as' : List Ty) (j : Nat) (h : j < as'.length) : (argTo xs d c as' (j + 1)).length = (argTo xs d c as' j).length * (valsL xs d as'[j]).length := by rw [argTo_succ _ _ _ _ _ h, growV_len]
/-- some argument has no value -/
def noneB (xs : List Dt) (d : Nat) (as' : List Ty) : Bool := as'.any fun a => (valsL xs d a).length == 0
theorem argTo_none {xs : List Dt} {d : Nat} {c : Int} {as' : List Ty} : ∀ {k j : Nat} (hk : k < as'.length), (valsL xs d as'[k]).length = 0 → k < j → j ≤ as'.length → argTo xs d c as' j = [] := by
  intro k j hk h0 hkj hj
  induction j with
  | zero => omega
  | succ j ih =>
    have hl := argTo_len_succ xs d c as' j (by omega)
    rcases Nat.lt_or_ge k j with h | h
    · rw [ih h (by omega)] at hl
      simp at hl
      exact hl
    · obtain rfl : k = j := by omega
      rw [h0, Nat.mul_zero] at hl
      exact List.length_eq_zero_iff.1 hl
theorem blockL_none {xs : List Dt} {d : Nat} {t : Ty} {c : Int} (h : noneB xs d (argsOf xs t c) = true) : blockL xs d t c = [] := by
  unfold noneB at h
  rw [List.any_eq_true] at h
  obtain ⟨a, ha, h⟩ := h
  obtain ⟨k, hk, rfl⟩ := List.getElem_of_mem ha
  rw [beq_iff_eq] at h
  rw [← argTo_all xs d t c (Nat.le_refl _)]
  exact argTo_none hk h hk (Nat.le_refl _)
theorem noneB_pos {xs : List Dt} {d : Nat} {as' : List Ty} (h : noneB xs d as' = false) {j : Nat} (hj : j < as'.length) : 0 < (valsL xs d as'[j]).length := by
  unfold noneB at h
  rw [List.any_eq_false] at h
  have := h as'[j] (List.getElem_mem hj)
  simp only [beq_iff_eq] at this
  omega
theorem argTo_mono {xs : List Dt} {d : Nat} {c : Int} {as' : List Ty} (h : noneB xs d as' = false) : ∀ (k j : Nat), j + k ≤ as'.length → (argTo xs d c as' j).length ≤ (argTo xs d c as' (j + k)).length := by
  intro k
  induction k with
  | zero => intro j _; exact Nat.le_refl _
  | succ k ih =>
    intro j hj
    have h1 := ih j (by omega)
    have h2 := argTo_len_succ xs d c as' (j + k) (by omega)
    have h3 := noneB_pos h (j := j + k) (by omega)
    rw [show j + (k + 1) = j + k + 1 by omega, h2]
    exact Nat.le_trans h1 (Nat.le_mul_of_pos_right _ h3)
theorem argTo_pos {xs : List Dt} {d : Nat} {c : Int} {as' : List Ty} (h : noneB xs d as' = false) (j : Nat) (hj : j ≤ as'.length) : 0 < (argTo xs d c as' j).length := by
  have := argTo_mono (c := c) h j 0 (by omega)
  rw [argTo_zero, Nat.zero_add] at this
  exact this
theorem argTo_le {xs : List Dt} {d : Nat} {t : Ty} {c : Int} (h : noneB xs d (argsOf xs t c) = false) (j : Nat) : (argTo xs d c (argsOf xs t c) j).length ≤ (blockL xs d t c).length := by
  rcases Nat.lt_or_ge j (argsOf xs t c).length with hj | hj
  · have := argTo_mono (c := c) h ((argsOf xs t c).length - j) j (by omega)
    rw [argTo_all xs d t c (show (argsOf xs t c).length ≤ j + ((argsOf xs t c).length - j) by omega)] at this
    exact this
  · rw [argTo_all xs d t c hj]; exact Nat.le_refl _
theorem kid_le {xs : List Dt} {d : Nat} {t : Ty} {c : Int} (h : noneB xs d (argsOf xs t c) = false) {j : Nat} (hj : j < (argsOf xs t c).length) : (valsL xs d (argsOf xs t c)[j]).length ≤ (blockL xs d t c).length := by
  have h1 := argTo_le (c := c) h (j + 1)
  rw [argTo_len_succ _ _ _ _ _ hj] at h1
  exact Nat.le_trans (Nat.le_mul_of_pos_left _ (argTo_pos h j (by omega))) h1
/-- what the combined values are made of -/
def Headed (c : Int) (j : Nat) (l : List V) : Prop := ∀ v ∈ l, v.c = c ∧ v.n = 0 ∧ v.ks.length = j
theorem growV_headed {c : Int} {j : Nat} {list kids : List V} (h : Headed c j list) : Headed c (j + 1) (growV c list kids) := fun v hv => by
  obtain ⟨u, hu, hv⟩ := List.mem_flatMap.1 hv
  obtain ⟨k, hk, rfl⟩ := List.mem_map.1 hv
  exact ⟨rfl, rfl, by have := (h u hu).2.2; simp [this]⟩
theorem argTo_headed (xs : List Dt) (d : Nat) (c : Int) (as' : List Ty) : ∀ j, j ≤ as'.length → Headed c j (argTo xs d c as' j) := by
  intro j
  induction j with
  | zero => intro _ v hv; rw [argTo_zero, List.mem_singleton] at hv; subst hv; exact ⟨rfl, rfl, rfl⟩
  | succ j ih => intro h; rw [argTo_succ _ _ _ _ _ (by omega)]; exact growV_headed (ih (by omega))

/-- a number, at most one more than the greatest length of a list -/
def capN (n : Nat) : Nat := min n 401
theorem capN_le (n : Nat) : capN n ≤ 401 := Nat.min_le_right _ _
theorem capN_mul (a b : Nat) : min (capN a * capN b) 401 = capN (a * b) := by
  unfold capN
  rcases Nat.lt_or_ge a 401 with ha | ha
  · rcases Nat.lt_or_ge b 401 with hb | hb
    · rw [Nat.min_eq_left (Nat.le_of_lt ha), Nat.min_eq_left (Nat.le_of_lt hb)]
    · rw [Nat.min_eq_left (Nat.le_of_lt ha), Nat.min_eq_right hb]
      rcases Nat.eq_zero_or_pos a with rfl | h0
      · simp
      · have h1 : 401 ≤ a * 401 := Nat.le_mul_of_pos_left _ h0
        have h2 : 401 ≤ a * b := Nat.le_trans hb (Nat.le_mul_of_pos_left _ h0)
        omega
  · rw [Nat.min_eq_right ha]
    rcases Nat.eq_zero_or_pos b with rfl | h0
    · simp
    · have h1 : 401 ≤ 401 * min b 401 := Nat.le_mul_of_pos_right _ (by omega)
      have h2 : 401 ≤ a * b := Nat.le_trans ha (Nat.le_mul_of_pos_right _ h0)
      omega
theorem capN_add (a b : Nat) : min (capN a + capN b) 401 = capN (a + b) := by unfold capN; omega
theorem capN_zero (a : Nat) : capN a = 0 ↔ a = 0 := by unfold capN; omega
theorem capN_big (a : Nat) : 400 < capN a ↔ 400 < a := by unfold capN; omega
def cntU (xs : List Dt) (d : Nat) (t : Ty) : Nat := capN (valsL xs d t).length
def cntArg (xs : List Dt) (d : Nat) (as' : List Ty) (j : Nat) : Nat := capN (argTo xs d 0 as' j).length
theorem argTo_len_any (xs : List Dt) (d : Nat) (c c' : Int) (as' : List Ty) : ∀ j, j ≤ as'.length → (argTo xs d c as' j).length = (argTo xs d c' as' j).length := by
  intro j
  induction j with
  | zero => intro _; rfl
  | succ j ih => intro h; rw [argTo_len_succ _ _ _ _ _ (by omega), argTo_len_succ _ _ _ _ _ (by omega), ih (by omega)]
theorem cntArg_zero (xs : List Dt) (d : Nat) (as' : List Ty) : cntArg xs d as' 0 = 1 := rfl
theorem cntArg_succ (xs : List Dt) (d : Nat) (as' : List Ty) (j : Nat) (h : j < as'.length) : cntArg xs d as' (j + 1) = min (cntArg xs d as' j * cntU xs d as'[j]) 401 := by
  unfold cntArg cntU
  rw [capN_mul, argTo_len_succ _ _ _ _ _ h]
theorem cntArg_le (xs : List Dt) (d : Nat) (as' : List Ty) (j : Nat) : cntArg xs d as' j ≤ 401 := capN_le _
def cntTo (xs : List Dt) (d : Nat) (t : Ty) (i : Nat) : Nat := capN (valsTo xs d t i).length
theorem cntTo_zero (xs : List Dt) (d : Nat) (t : Ty) : cntTo xs d t 0 = 0 := rfl
theorem cntTo_succ (xs : List Dt) (d : Nat) (t : Ty) (i : Nat) (h : i < (ctorsL xs t).length) {j : Nat} (hj : (argsOf xs t (ctorsL xs t)[i]).length = j) : cntTo xs d t (i + 1) = min (cntTo xs d t i + cntArg xs d (argsOf xs t (ctorsL xs t)[i]) j) 401 := by
  unfold cntTo cntArg
  rw [capN_add, valsTo_succ _ _ _ _ h, List.length_append, argTo_len_any xs d 0 (ctorsL xs t)[i] _ j (by omega), argTo_all xs d t _ (by omega)]
theorem cntTo_all {xs : List Dt} {d : Nat} {t : Ty} (h : ¬ t.d = -1) {i : Nat} (hi : (ctorsL xs t).length ≤ i) : cntTo xs d t i = cntU xs (d + 1) t := by unfold cntTo cntU; rw [valsTo_all h hi]
theorem cntTo_le (xs : List Dt) (d : Nat) (t : Ty) (i : Nat) : cntTo xs d t i ≤ 401 := capN_le _
theorem cntU_zero (xs : List Dt) (t : Ty) : cntU xs 0 t = 0 := rfl
theorem cntU_int {xs : List Dt} {d : Nat} {t : Ty} (h : t.d = -1) : cntU xs (d + 1) t = 10 := by unfold cntU; rw [valsL_int h, numsL_len]; rfl
theorem cntU_le (xs : List Dt) (d : Nat) (t : Ty) : cntU xs d t ≤ 401 := capN_le _
theorem cntU_none (xs : List Dt) (d : Nat) (t : Ty) : ((cntU xs d t : Int) == 0) = ((valsL xs d t).length == 0) := by
  rw [Bool.eq_iff_iff, beq_iff_eq, beq_iff_eq]
  have := capN_zero (valsL xs d t).length
  unfold cntU
  omega
theorem cntU_big (xs : List Dt) (d : Nat) (t : Ty) : 400 < cntU xs d t ↔ 400 < (valsL xs d t).length := capN_big _

/-- the first 401 -/
def cutV {α : Type} (l : List α) : List α := l.take 401
theorem cutV_len {α : Type} (l : List α) : (cutV l).length ≤ 401 := by unfold cutV; rw [List.length_take]; omega
theorem cutV_short {α : Type} {l : List α} (h : l.length ≤ 401) : cutV l = l := List.take_of_length_le h
theorem cutV_not {α : Type} {l : List α} (h : (cutV l).length ≤ 400) : cutV l = l := by
  unfold cutV at h ⊢
  rw [List.length_take] at h
  exact List.take_of_length_le (by omega)
theorem cutV_snoc {α : Type} {l : List α} (h : (cutV l).length ≤ 400) (x : α) : cutV l ++ [x] = cutV (l ++ [x]) := by
  have h1 := cutV_not h
  rw [h1] at h ⊢
  rw [cutV_short (by rw [List.length_append, List.length_singleton]; omega)]
theorem cutV_full {α : Type} {l : List α} (h : ¬ (cutV l).length ≤ 400) (m : List α) : cutV l = cutV (l ++ m) := by
  unfold cutV at h ⊢
  rw [List.length_take] at h
  rw [List.take_append_of_le_length (by omega)]
theorem take_app_left {α : Type} (n : Nat) (X Y : List α) : (X.take n ++ Y).take n = (X ++ Y).take n := by
  rw [List.take_append, List.take_append, List.take_take, Nat.min_self, List.length_take]
  rcases Nat.lt_or_ge n X.length with h | h
  · rw [Nat.min_eq_left (by omega), show n - n = 0 by omega, show n - X.length = 0 by omega]
  · rw [Nat.min_eq_right h]
theorem take_app_right {α : Type} (n : Nat) (X Y : List α) : (X ++ Y.take n).take n = (X ++ Y).take n := by
  rw [List.take_append, List.take_append, List.take_take, Nat.min_eq_left (by omega)]
theorem take_flatMap_each {α β : Type} (n : Nat) (g : α → List β) : ∀ A : List α, (A.flatMap fun o => (g o).take n).take n = (A.flatMap g).take n
  | [] => rfl
  | a :: A => by
    rw [List.flatMap_cons, List.flatMap_cons, take_app_left, ← take_app_right, take_flatMap_each n g A, take_app_right]
theorem take_flatMap_few {α β : Type} (g : α → List β) (hg : ∀ o, g o ≠ []) : ∀ (A : List α) (n m : Nat), n ≤ m → ((A.take m).flatMap g).take n = (A.flatMap g).take n
  | [], n, m, _ => by simp
  | a :: A, n, m, h => by
    cases m with
    | zero => obtain rfl : n = 0 := by omega
              simp
    | succ m =>
      have h1 : 0 < (g a).length := List.length_pos_iff.2 (hg a)
      rw [List.take_succ_cons, List.flatMap_cons, List.flatMap_cons, List.take_append, List.take_append]
      congr 1
      exact take_flatMap_few g hg A _ _ (by omega)
/-- lists, each with each of l behind it -/
def pairK (o : List V) (l : List V) : List (List V) := l.map fun k => o ++ [k]
def pairL (A : List (List V)) (l : List V) : List (List V) := A.flatMap fun o => pairK o l
def pairAll (ls : List (List V)) : List (List V) := ls.foldl pairL [[]]
theorem pair_cut (A : List (List V)) (l : List V) : cutV (pairL (cutV A) (cutV l)) = cutV (pairL A l) := by
  have h1 : cutV (pairL (cutV A) (cutV l)) = cutV (pairL (cutV A) l) := by
    have := take_flatMap_each 401 (fun o => pairK o l) (cutV A)
    unfold cutV pairL
    unfold cutV at this
    rw [← this]
    congr 2
    funext o
    unfold pairK
    rw [List.map_take]
  rw [h1]
  by_cases hl : l = []
  · subst hl
    have h0 : ∀ A : List (List V), pairL A [] = [] := fun A => by unfold pairL pairK; simp
    rw [h0, h0]
  · exact take_flatMap_few (fun o => pairK o l) (fun o e => hl (by unfold pairK at e; simpa using e)) A 401 401 (Nat.le_refl _)
theorem pairFold_cut : ∀ (ls : List (List V)) (A : List (List V)), cutV ((ls.map cutV).foldl pairL A) = cutV (ls.foldl pairL A) ∧ ∀ B, cutV A = cutV B → cutV (ls.foldl pairL A) = cutV (ls.foldl pairL B)
  | [], A => ⟨rfl, fun B h => h⟩
  | l :: ls, A => by
    have hcong : ∀ A B, cutV A = cutV B → cutV (pairL A l) = cutV (pairL B l) := fun A B h => by rw [← pair_cut A, h, pair_cut B]
    have hc2 : cutV (pairL A (cutV l)) = cutV (pairL A l) := by
      rw [← pair_cut A (cutV l), ← pair_cut A l]
      congr 2
      unfold cutV
      rw [List.take_take]
      rfl
    refine ⟨?_, fun B h => ?_⟩
    · rw [List.map_cons, List.foldl_cons, List.foldl_cons, (pairFold_cut ls _).1]
      exact (pairFold_cut ls _).2 _ hc2
    · rw [List.foldl_cons, List.foldl_cons]
      exact (pairFold_cut ls _).2 _ (hcong A B h)
theorem pairAll_cut (ls : List (List V)) : cutV (pairAll (ls.map cutV)) = cutV (pairAll ls) := (pairFold_cut ls [[]]).1
def headV (c : Int) (ks : List V) : V := ⟨c, 0, ks⟩
theorem growV_pair (c : Int) (A : List (List V)) (l : List V) : growV c (A.map (headV c)) l = (pairL A l).map (headV c) := by
  unfold growV pairL
  rw [List.map_flatMap, List.flatMap_map]
  congr 1
  funext o
  unfold growK pairK headV
  rw [List.map_map]
  rfl
theorem growAll_pairs (c : Int) (ls : List (List V)) : growAll c ls = (pairAll ls).map (headV c) := by
  have h : ∀ (ls : List (List V)) (A : List (List V)), ls.foldl (growV c) (A.map (headV c)) = (ls.foldl pairL A).map (headV c) := by
    intro ls
    induction ls with
    | nil => intro A; rfl
    | cons l ls ih => intro A; rw [List.foldl_cons, List.foldl_cons, growV_pair, ih]
  exact h ls [[]]
end Go.Proofs.Ytilndhmegaccmaa

namespace Go.Proofs.Ytilndhmegaccmaa
open Go.RowKit
open Classical

/-- from level n on no further type gets a value -/
def Stable (xs : List Dt) (n : Nat) : Prop := ∀ s, s < xs.length * 4 → hasD xs (n + 1) (tyAt s) → hasD xs n (tyAt s)
theorem stable_step {xs : List Dt} (hw : WorldOK xs) {n : Nat} (hn : 1 ≤ n) (h : Stable xs n) : Stable xs (n + 1) := by
  intro s hs hh
  rcases hh with hh | ⟨k, hk, ha⟩
  · exact .inl hh
  · refine .inr ⟨k, hk, fun a hm => ?_⟩
    have hai := argsOf_in hw (tyAt_in hs) hk hm
    by_cases e : a.d = -1
    · obtain ⟨m, rfl⟩ : ∃ m, n = m + 1 := ⟨n - 1, by omega⟩
      exact .inl e
    · obtain ⟨q1, q2⟩ := hai.slot e
      have := h _ q1 (by rw [q2]; exact ha a hm)
      rwa [q2] at this
noncomputable def lvl (xs : List Dt) (n : Nat) : Nat := ((List.range (xs.length * 4)).filter fun s => decide (hasD xs n (tyAt s))).length
theorem filter_lt {p q : Nat → Bool} : ∀ (l : List Nat), (∀ x ∈ l, p x = true → q x = true) → (∃ x ∈ l, q x = true ∧ p x = false) → (l.filter p).length < (l.filter q).length
  | [], _, h => by obtain ⟨x, hx, -⟩ := h; cases hx
  | y :: l, h, ⟨x, hx, h1, h2⟩ => by
    have hle : ∀ l : List Nat, (∀ x ∈ l, p x = true → q x = true) → (l.filter p).length ≤ (l.filter q).length := by
      intro l
      induction l with
      | nil => intro _; exact Nat.le_refl _
      | cons z l ih =>
        intro hl
        have := ih fun x hx => hl x (by simp [hx])
        have hz := hl z (by simp)
        cases hp : p z with
        | true => rw [List.filter_cons_of_pos hp, List.filter_cons_of_pos (hz hp)]; simp only [List.length_cons]; omega
        | false =>
          rw [List.filter_cons_of_neg (by simp [hp])]
          cases hq : q z with
          | true => rw [List.filter_cons_of_pos hq]; simp only [List.length_cons]; omega
          | false => rw [List.filter_cons_of_neg (by simp [hq])]; exact this
    have hrest := hle l fun x hx => h x (by simp [hx])
    rcases List.mem_cons.1 hx with rfl | hx
    · rw [List.filter_cons_of_neg (by simp [h2]), List.filter_cons_of_pos h1]; simp only [List.length_cons]; omega
    · have ih := filter_lt l (fun x hx => h x (by simp [hx])) ⟨x, hx, h1, h2⟩
      have hy := h y (by simp)
      cases hp : p y with
      | true => rw [List.filter_cons_of_pos hp, List.filter_cons_of_pos (hy hp)]; simp only [List.length_cons]; omega
      | false =>
        rw [List.filter_cons_of_neg (by simp [hp])]
        cases hq : q y with
        | true => rw [List.filter_cons_of_pos hq]; simp only [List.length_cons]; omega
        | false => rw [List.filter_cons_of_neg (by simp [hq])]; exact ih
theorem lvl_lt {xs : List Dt} {n : Nat} (h : ¬ Stable xs n) : lvl xs n < lvl xs (n + 1) := by
  unfold Stable at h
  obtain ⟨s, h⟩ := Classical.not_forall.1 h
  obtain ⟨hs, h⟩ := Classical.not_imp.1 h
  obtain ⟨h1, h2⟩ := Classical.not_imp.1 h
  unfold lvl
  refine filter_lt _ (fun x _ hx => ?_) ⟨s, List.mem_range.2 hs, by simp [h1], by simp [h2]⟩
  simp only [decide_eq_true_eq] at hx ⊢
  exact hasD_mono hx
theorem lvl_le (xs : List Dt) (n : Nat) : lvl xs n ≤ xs.length * 4 := by
  unfold lvl
  exact Nat.le_trans (List.length_filter_le _ _) (by simp)
theorem stable_ex {xs : List Dt} : ∀ n, (∃ m, 1 ≤ m ∧ m ≤ n ∧ Stable xs m) ∨ n ≤ lvl xs (n + 1)
  | 0 => .inr (Nat.zero_le _)
  | n + 1 => by
    rcases stable_ex (xs := xs) n with ⟨m, h1, h2, h3⟩ | h
    · exact .inl ⟨m, h1, by omega, h3⟩
    · by_cases hs : Stable xs (n + 1)
      · exact .inl ⟨n + 1, by omega, Nat.le_refl _, hs⟩
      · have := lvl_lt hs
        exact .inr (by omega)
theorem stable_max {xs : List Dt} (hw : WorldOK xs) : Stable xs (xs.length * 4 + 1) := by
  rcases stable_ex (xs := xs) (xs.length * 4 + 1) with ⟨m, h1, h2, h3⟩ | h
  · have key : ∀ k, m ≤ k → Stable xs k := by
      intro k hk
      induction hk with
      | refl => exact h3
      | step hk ih => exact stable_step hw (Nat.le_trans h1 hk) ih
    exact key _ h2
  · have := lvl_le xs (xs.length * 4 + 1 + 1)
    omega
theorem hasD_max {xs : List Dt} (hw : WorldOK xs) {s : Nat} (hs : s < xs.length * 4) : ∀ {n : Nat}, hasD xs n (tyAt s) → hasD xs (xs.length * 4 + 1) (tyAt s) := by
  have hst : ∀ k, Stable xs (xs.length * 4 + 1 + k) := by
    intro k
    induction k with
    | zero => exact stable_max hw
    | succ k ih => exact stable_step hw (n := xs.length * 4 + 1 + k) (by omega) ih
  have down : ∀ k, hasD xs (xs.length * 4 + 1 + k) (tyAt s) → hasD xs (xs.length * 4 + 1) (tyAt s) := by
    intro k
    induction k with
    | zero => exact id
    | succ k ih => exact fun h => ih (hst k s hs h)
  intro n h
  exact down n (hasD_le h (by omega))

theorem list_ext {a b : List Int} (hl : a.length = b.length) (h : ∀ s, s < a.length → a.getD s 0 = b.getD s 0) : a = b := by
  refine List.ext_getElem hl fun s h1 h2 => ?_
  have := h s h1
  simpa [List.getD, List.getElem?_eq_getElem h1, List.getElem?_eq_getElem h2] using this
theorem tableL_fix {xs : List Dt} (hw : WorldOK xs) : sweep xs (tableL xs) = tableL xs := by
  refine list_ext (by show (sweeps xs (_ + 1)).length = (sweeps xs _).length; rw [sweeps_length, sweeps_length]) fun s hs => ?_
  have hs : s < xs.length * 4 := Nat.lt_of_lt_of_eq hs (sweeps_length xs (xs.length * 4 + 1 + 1))
  show (sweeps xs (xs.length * 4 + 1 + 1)).getD s 0 = (sweeps xs (xs.length * 4 + 1)).getD s 0
  have s1 := sound_sweeps hw (xs.length * 4 + 1)
  have s2 := sound_sweeps hw (xs.length * 4 + 1 + 1)
  have d1 := done_sweeps hw (xs.length * 4 + 1) s hs
  by_cases h0 : (sweeps xs (xs.length * 4 + 1)).getD s 0 = 0
  · by_cases h1 : (sweeps xs (xs.length * 4 + 1 + 1)).getD s 0 = 0
    · rw [h0, h1]
    · exact absurd h0 (d1 (hasD_max hw hs (s2.has s hs h1))).1
  · have l := le_sweeps (xs := xs) (xs.length * 4 + 1) s h0
    have hv := s2.has s hs l.1
    have hb := (d1 (hasD_max hw hs (s1.has s hs h0))).2
    have hp := s2.pos s
    have hd := done_sweeps hw _ s hs hv
    have hl := le_sweeps' (xs := xs) (n := ((sweeps xs (xs.length * 4 + 1 + 1)).getD s 0).toNat) (m := xs.length * 4 + 1) (by omega) s hd.1
    omega
theorem sweeps_from {xs : List Dt} {m : Nat} (h : sweep xs (sweeps xs m) = sweeps xs m) : ∀ k, sweeps xs (m + k) = sweeps xs m
  | 0 => rfl
  | k + 1 => by show sweep xs (sweeps xs (m + k)) = _; rw [sweeps_from h k, h]
/-- a fixed point that is reached is the table -/
theorem fix_table {xs : List Dt} (hw : WorldOK xs) {m : Nat} (h : sweep xs (sweeps xs m) = sweeps xs m) : sweeps xs m = tableL xs := by
  rcases Nat.le_total m (xs.length * 4 + 1) with hm | hm
  · obtain ⟨k, hk⟩ := Nat.exists_eq_add_of_le hm
    have := sweeps_from h k
    rw [← hk] at this
    exact this.symm
  · obtain ⟨k, hk⟩ := Nat.exists_eq_add_of_le hm
    rw [hk]
    exact sweeps_from (tableL_fix hw) k
theorem moved_le {xs : List Dt} (hw : WorldOK xs) {m : Nat} (h : sweep xs (sweeps xs m) ≠ sweeps xs m) : m ≤ xs.length * 4 := by
  rcases Nat.lt_or_ge (xs.length * 4) m with hm | hm
  · obtain ⟨k, hk⟩ := Nat.exists_eq_add_of_le (show xs.length * 4 + 1 ≤ m by omega)
    refine absurd ?_ h
    have e : sweeps xs m = tableL xs := by rw [hk]; exact sweeps_from (tableL_fix hw) k
    rw [e]; exact tableL_fix hw
  · exact hm

/-- a table differs from the one that a sweep began with -/
def movedB (t cur : List Int) : Bool := !(cur == t)
theorem movedB_refl (t : List Int) : movedB t t = false := by unfold movedB; simp
theorem movedB_put {t cur : List Int} (h : Le t cur) {s : Nat} (hs : s < cur.length) {n : Int} (hb : better cur s n = true) (hp : 0 ≤ cur.getD s 0) : movedB t (putIf cur s n) = true := by
  have hne : putIf cur s n ≠ t := fun e => by
    obtain ⟨h1, h2⟩ := better_iff.1 hb
    have hv : (putIf cur s n).getD s 0 = n := by
      unfold putIf
      rw [if_pos hb, getD_set _ _ _ _ hs, if_pos rfl]
    rw [e] at hv
    by_cases h0 : t.getD s 0 = 0
    · omega
    · have := h s h0
      omega
  unfold movedB
  simp [hne]
theorem movedB_not {cur : List Int} {s : Nat} {n : Int} (hb : better cur s n = false) : putIf cur s n = cur := by unfold putIf; rw [if_neg (by simp [hb])]
theorem putIf_yes {cur : List Int} {s : Nat} {n : Int} (hb : better cur s n = true) : putIf cur s n = cur.set s n := if_pos hb
theorem movedB_iff {t cur : List Int} : movedB t cur = false ↔ cur = t := by unfold movedB; simp
/-- what LeastDepth gives -/
def depthL (xs : List Dt) (t : Ty) : Int := if typeValidB xs t = true then depthIn (tableL xs) t else 0
end Go.Proofs.Ytilndhmegaccmaa

namespace Go.Proofs.Ytilndhmegaccmaa
open Go.RowKit

theorem fitTo_mem {cs : List Kt} {i : Int} {m k : Nat} (hm : m ≤ cs.length) : (k : Int) ∈ fitTo cs i m ↔ ∃ h : k < m, fitsB (cs[k]'(by omega)) i = true := by
  unfold fitTo
  rw [List.mem_map]
  constructor
  · rintro ⟨j, hj, e⟩
    have e : j = k := Int.ofNat.inj e
    subst e
    obtain ⟨h1, h2⟩ := List.mem_filter.1 hj
    have hjm : j < m := by simpa using h1
    refine ⟨hjm, ?_⟩
    unfold fitAt at h2
    rw [List.getElem?_eq_getElem (by omega)] at h2
    exact h2
  · rintro ⟨h, hf⟩
    refine ⟨k, List.mem_filter.2 ⟨by simpa using h, ?_⟩, rfl⟩
    unfold fitAt
    rw [List.getElem?_eq_getElem (by omega)]
    exact hf
theorem hasB_ctors {xs : List Dt} {d k : Nat} {i : Int} (hd : d < xs.length) (hk : k < xs[d].ctors.length) : hasB (ctorsL xs ⟨(d : Int), i⟩) (k : Int) = fitsB xs[d].ctors[k] i := by
  rw [Bool.eq_iff_iff, hasB_iff, ctorsL_data hd, fitTo_mem (Nat.le_refl _)]
  exact ⟨fun ⟨_, h⟩ => h, fun h => ⟨hk, h⟩⟩
/-- constructors with an index are among those with any -/
theorem ctorsL_any {xs : List Dt} {t : Ty} {n : Int} (ht : InWorld xs.length t) (h : n ∈ ctorsL xs t) : n ∈ ctorsL xs ⟨t.d, 0⟩ := by
  obtain ⟨d, k, h1, rfl, hd, hk⟩ := mem_ctorsL ht h
  obtain ⟨t1, t2⟩ := t
  simp only at h1
  subst h1
  rw [ctorsL_data hd, fitTo_mem (Nat.le_refl _)]
  refine ⟨hk, ?_⟩
  unfold fitsB
  simp
theorem fitTo_lt (cs : List Kt) (i : Int) : ∀ n, ∀ x ∈ fitTo cs i n, x < (n : Int) := by
  intro n x hx
  obtain ⟨k, rfl, hk⟩ := mem_fitTo hx
  omega
/-- they ascend -/
theorem fitTo_sorted (cs : List Kt) (i : Int) (n : Nat) (hn : n ≤ cs.length) : ∀ a (ha : a + 1 < (fitTo cs i n).length), (fitTo cs i n)[a] < (fitTo cs i n)[a + 1] := by
  induction n with
  | zero => intro a ha; simp [fitTo] at ha
  | succ n ih =>
    intro a ha
    have hs := fitTo_succ cs i n (by omega)
    cases hf : fitsB cs[n] i with
    | false =>
      rw [hf] at hs
      simp only [Bool.false_eq_true, if_false] at hs
      simp only [hs] at ha ⊢
      exact ih (by omega) a ha
    | true =>
      rw [hf] at hs
      simp only [if_true] at hs
      simp only [hs] at ha ⊢
      rw [List.length_append, List.length_singleton] at ha
      rcases Nat.lt_or_ge (a + 1) (fitTo cs i n).length with h | h
      · rw [List.getElem_append_left (by omega), List.getElem_append_left h]
        exact ih (by omega) a h
      · rw [List.getElem_append_left (by omega), List.getElem_append_right (by omega)]
        have := fitTo_lt cs i n _ (List.getElem_mem (show a < (fitTo cs i n).length by omega))
        simp only [show a + 1 - (fitTo cs i n).length = 0 by omega, List.getElem_cons_zero]
        omega
theorem ctorsL_sorted {xs : List Dt} {t : Ty} (ht : InWorld xs.length t) : ∀ a (ha : a + 1 < (ctorsL xs t).length), (ctorsL xs t)[a] < (ctorsL xs t)[a + 1] := by
  rcases ht with hd | ⟨d, hd, hdl⟩
  · intro a ha
    have := ctorsL_int (xs := xs) hd
    simp only [this] at ha
    simp at ha
  · obtain ⟨t1, t2⟩ := t
    simp only at hd
    subst hd
    have e := ctorsL_data (i := t2) hdl
    intro a ha
    simp only [e] at ha ⊢
    exact fitTo_sorted _ _ _ (Nat.le_refl _) a ha
end Go.Proofs.Ytilndhmegaccmaa

namespace Go.Proofs.Ytilndhmegaccmaa
open Go.RowKit

theorem tableL_done {xs : List Dt} (hw : WorldOK xs) (n : Nat) : Done xs (tableL xs) n := fun s hs h => by
  rcases Nat.le_total n (xs.length * 4 + 1) with hn | hn
  · exact (done_sweeps hw n).le (le_sweeps' hn) s hs h
  · have := done_sweeps hw (xs.length * 4 + 1) s hs (hasD_max hw hs h)
    exact ⟨this.1, by have h2 := this.2; show (sweeps xs (xs.length * 4 + 1)).getD s 0 ≤ (n : Int); omega⟩
theorem depthIn_done {xs : List Dt} (hw : WorldOK xs) {a : Ty} (ha : TyIn xs.length a) {n : Nat} (h : hasD xs n a) : depthIn (tableL xs) a ≠ 0 ∧ depthIn (tableL xs) a ≤ n := by
  have hn : 1 ≤ n := by
    cases n with
    | zero => exact h.elim
    | succ n => omega
  by_cases e : a.d = -1
  · unfold depthIn
    rw [if_pos e]
    omega
  · obtain ⟨h1, h2⟩ := ha.slot e
    have := tableL_done hw n (slotOf a) h1 (by rw [h2]; exact h)
    unfold depthIn
    rw [if_neg e]
    exact this
theorem sound_tableL {xs : List Dt} (hw : WorldOK xs) : Sound xs (tableL xs) := sound_sweeps hw _
theorem mostIn_nonneg {xs : List Dt} (hw : WorldOK xs) (t : Ty) (k : Int) : 0 ≤ mostIn xs (tableL xs) t k := by
  have key : ∀ (ls : List Ty) (m : Int), 0 ≤ m → 0 ≤ mostGo (tableL xs) m ls := by
    intro ls
    induction ls with
    | nil => intro m h; simp only [mostGo]; omega
    | cons a ls ih =>
      intro m h
      simp only [mostGo]
      split
      · omega
      · exact ih _ (by omega)
  exact key _ _ (Int.le_refl _)
theorem least_le {xs : List Dt} (hw : WorldOK xs) {t : Ty} (ht : TyIn xs.length t) {k : Int} (hk : k ∈ ctorsL xs t) (hm : mostIn xs (tableL xs) t k ≠ 0) : depthIn (tableL xs) t ≠ 0 ∧ depthIn (tableL xs) t ≤ mostIn xs (tableL xs) t k := by
  have hs := sound_tableL hw
  have hne := mostGo_ne hm
  have hp := mostGo_pos hs.dpos (Int.le_refl 0) hne
  have h0 : 0 < mostIn xs (tableL xs) t k := hp.1
  have := depthIn_done hw ht (n := (mostIn xs (tableL xs) t k - 1).toNat + 1) (.inr ⟨k, hk, fun a ha => by
    refine hasD_le (hs.dhas (argsOf_in hw ht hk ha) (hne a ha)) ?_
    have := hp.2 a ha
    have h2 : mostGo (tableL xs) 0 (argsOf xs t k) = mostIn xs (tableL xs) t k := rfl
    omega⟩)
  exact ⟨this.1, by have h2 := this.2; omega⟩
theorem least_ex {xs : List Dt} (hw : WorldOK xs) {t : Ty} (ht : TyIn xs.length t) (hd : ¬ t.d = -1) (h : depthIn (tableL xs) t ≠ 0) : ∃ k ∈ ctorsL xs t, mostIn xs (tableL xs) t k ≠ 0 ∧ mostIn xs (tableL xs) t k ≤ depthIn (tableL xs) t := by
  have hs := sound_tableL hw
  have h0 := hs.dpos t
  have hh := hs.dhas ht h
  obtain ⟨m, hm⟩ : ∃ m, (depthIn (tableL xs) t).toNat = m + 1 := ⟨(depthIn (tableL xs) t).toNat - 1, by omega⟩
  rw [hm] at hh
  rcases hh with hh | ⟨k, hk, ha⟩
  · exact absurd hh hd
  · have hall : ∀ a ∈ argsOf xs t k, depthIn (tableL xs) a ≠ 0 ∧ depthIn (tableL xs) a ≤ (m : Int) := fun a hm => depthIn_done hw (argsOf_in hw ht hk hm) (ha a hm)
    have h1 : mostIn xs (tableL xs) t k ≤ (m : Int) + 1 := mostGo_le (by omega) hall
    have h2 : 0 < mostIn xs (tableL xs) t k := (mostGo_pos hs.dpos (Int.le_refl 0) fun a ha => (hall a ha).1).1
    exact ⟨k, hk, by omega, by omega⟩

/-! ### The least of some numbers, where 0 stands for none -/
def bestOf (b m : Int) : Int := if m ≠ 0 ∧ (b = 0 ∨ m < b) then m else b
def bestTo (ms : List Int) : Int := ms.foldl bestOf 0
theorem bestTo_snoc (ms : List Int) (m : Int) : bestTo (ms ++ [m]) = bestOf (bestTo ms) m := by unfold bestTo; rw [List.foldl_append]; rfl
theorem bestTo_spec : ∀ (ms : List Int), (∀ m ∈ ms, 0 ≤ m) → ((bestTo ms = 0 ∧ ∀ m ∈ ms, m = 0) ∨ (bestTo ms ∈ ms ∧ 0 < bestTo ms ∧ ∀ m ∈ ms, m ≠ 0 → bestTo ms ≤ m)) := by
  have key : ∀ (r ms : List Int), ms = r.reverse → (∀ m ∈ ms, 0 ≤ m) → ((bestTo ms = 0 ∧ ∀ m ∈ ms, m = 0) ∨ (bestTo ms ∈ ms ∧ 0 < bestTo ms ∧ ∀ m ∈ ms, m ≠ 0 → bestTo ms ≤ m)) := by
    intro r
    induction r with
    | nil => intro ms e _; subst e; exact .inl ⟨rfl, fun m hm => by cases hm⟩
    | cons x r ih =>
      intro ms e hp
      rw [List.reverse_cons] at e
      subst e
      have hpx := hp x (by simp)
      have ih := ih _ rfl fun m hm => hp m (by simp at hm ⊢; simp [hm])
      rw [bestTo_snoc]
      unfold bestOf
      rcases ih with ⟨h1, h2⟩ | ⟨h1, h2, h3⟩
      · by_cases hx : x = 0
        · left
          rw [if_neg (by omega)]
          exact ⟨h1, fun m hm => by
            rcases List.mem_append.1 hm with h | h
            · exact h2 m h
            · rw [List.mem_singleton] at h; omega⟩
        · right
          rw [if_pos ⟨hx, .inl h1⟩]
          exact ⟨by simp, by omega, fun m hm hm0 => by
            rcases List.mem_append.1 hm with h | h
            · exact absurd (h2 m h) hm0
            · rw [List.mem_singleton] at h; omega⟩
      · right
        split
        · rename_i hc
          exact ⟨by simp, by omega, fun m hm hm0 => by
            rcases List.mem_append.1 hm with h | h
            · have := h3 m h hm0; omega
            · rw [List.mem_singleton] at h; omega⟩
        · rename_i hc
          exact ⟨List.mem_append.2 (.inl h1), h2, fun m hm hm0 => by
            rcases List.mem_append.1 hm with h | h
            · exact h3 m h hm0
            · rw [List.mem_singleton] at h; subst h; omega⟩
  intro ms hp
  exact key ms.reverse ms (by simp) hp
theorem best_least {xs : List Dt} (hw : WorldOK xs) {t : Ty} (ht : TyIn xs.length t) (hd : ¬ t.d = -1) : bestTo ((ctorsL xs t).map (mostIn xs (tableL xs) t)) = depthIn (tableL xs) t := by
  have hp : ∀ m ∈ (ctorsL xs t).map (mostIn xs (tableL xs) t), 0 ≤ m := fun m hm => by
    obtain ⟨k, -, rfl⟩ := List.mem_map.1 hm
    exact mostIn_nonneg hw t k
  have h0 := (sound_tableL hw).dpos t
  rcases bestTo_spec _ hp with ⟨h1, h2⟩ | ⟨h1, h2, h3⟩
  · rw [h1]
    by_cases e : depthIn (tableL xs) t = 0
    · exact e.symm
    · obtain ⟨k, hk, hk0, -⟩ := least_ex hw ht hd e
      exact absurd (h2 _ (List.mem_map.2 ⟨k, hk, rfl⟩)) hk0
  · obtain ⟨k, hk, e⟩ := List.mem_map.1 h1
    have l1 := least_le hw ht hk (by omega)
    obtain ⟨k2, hk2, hk20, hk2l⟩ := least_ex hw ht hd l1.1
    have := h3 _ (List.mem_map.2 ⟨k2, hk2, rfl⟩) hk20
    omega

/-! ### Any index is no deeper -/
theorem hasD_wide {xs : List Dt} (hw : WorldOK xs) : ∀ (n : Nat) (t : Ty), TyIn xs.length t → hasD xs n t → hasD xs n ⟨t.d, 0⟩
  | 0, _, _, h => h
  | n + 1, t, ht, h => by
    rcases h with h | ⟨k, hk, ha⟩
    · exact .inl h
    · refine .inr ⟨k, ctorsL_any ht.inWorld hk, fun a hm => ?_⟩
      obtain ⟨d, m, h1, rfl, hd, hml⟩ := mem_ctorsL ht.inWorld hk
      have hin := fun a ha => argsOf_in hw ht hk (a := a) ha
      obtain ⟨t1, t2⟩ := t
      simp only at h1
      subst h1
      rw [argsOf_get hd hml] at hm
      rw [argsOf_get hd hml] at ha hin
      unfold argsL at hm ha hin
      obtain ⟨b, hb, rfl⟩ := List.mem_map.1 hm
      have hb2 := ha _ (List.mem_map.2 ⟨b, hb, rfl⟩)
      have hb3 := hin _ (List.mem_map.2 ⟨b, hb, rfl⟩)
      cases q : (b.i == -1) with
      | false =>
        rw [argTy_no q] at hb2 ⊢
        exact hb2
      | true =>
        rw [argTy_yes q] at hb2 hb3 ⊢
        unfold resIdx at hb2 hb3 ⊢
        split
        · rename_i hz
          rw [if_pos hz] at hb2 hb3
          exact hasD_wide hw n ⟨b.d, t2⟩ hb3 hb2
        · rename_i hz
          rw [if_neg hz] at hb2
          exact hb2
theorem depth_wide {xs : List Dt} (hw : WorldOK xs) {t : Ty} (ht : TyIn xs.length t) (h : depthIn (tableL xs) t ≠ 0) : depthIn (tableL xs) ⟨t.d, 0⟩ ≠ 0 ∧ depthIn (tableL xs) ⟨t.d, 0⟩ ≤ depthIn (tableL xs) t := by
  have hs := sound_tableL hw
  have ht0 : TyIn xs.length ⟨t.d, 0⟩ := by
    rcases ht with h | ⟨d, i, rfl, h1, h2⟩
    · exact .inl h
    · exact .inr ⟨d, 0, rfl, h1, by omega⟩
  have := depthIn_done hw ht0 (hasD_wide hw _ _ ht (hs.dhas ht h))
  have h0 := hs.dpos t
  exact ⟨this.1, by have h2 := this.2; omega⟩
end Go.Proofs.Ytilndhmegaccmaa

namespace Go.Proofs.Ytilndhmegaccmaa
open Go.RowKit

def isLeast (xs : List Dt) (t : Ty) (k : Int) : Bool := mostIn xs (tableL xs) t k == depthIn (tableL xs) t
def leastV (xs : List Dt) : Nat → Ty → V
  | 0, _ => ⟨0, 0, []⟩
  | n + 1, t => if t.d = -1 then ⟨-1, 0, []⟩ else match (ctorsL xs t).find? (isLeast xs t) with
    | none => ⟨0, 0, []⟩
    | some k => ⟨k, 0, (argsOf xs t k).map (leastV xs n)⟩
theorem leastV_int {xs : List Dt} {n : Nat} {t : Ty} (h : t.d = -1) : leastV xs (n + 1) t = ⟨-1, 0, []⟩ := by rw [leastV, if_pos h]
theorem leastV_none {xs : List Dt} {n : Nat} {t : Ty} (h : ¬ t.d = -1) (h2 : (ctorsL xs t).find? (isLeast xs t) = none) : leastV xs (n + 1) t = ⟨0, 0, []⟩ := by rw [leastV, if_neg h, h2]
theorem leastV_some {xs : List Dt} {n : Nat} {t : Ty} {k : Int} (h : ¬ t.d = -1) (h2 : (ctorsL xs t).find? (isLeast xs t) = some k) : leastV xs (n + 1) t = ⟨k, 0, (argsOf xs t k).map (leastV xs n)⟩ := by rw [leastV, if_neg h, h2]
theorem find_step {p : Int → Bool} {l : List Int} {i : Nat} (h : i < l.length) : (l.drop i).find? p = if p l[i] = true then some l[i] else (l.drop (i + 1)).find? p := by
  rw [List.drop_eq_getElem_cons h, List.find?_cons]
  cases p l[i] <;> simp
theorem find_end {p : Int → Bool} {l : List Int} {i : Nat} (h : l.length ≤ i) : (l.drop i).find? p = none := by
  rw [List.drop_of_length_le h]; rfl
/-- the arguments of a least constructor are less deep -/
theorem least_args {xs : List Dt} (hw : WorldOK xs) {t : Ty} (ht : TyIn xs.length t) {k : Int} (hk : k ∈ ctorsL xs t) (hl : isLeast xs t k = true) (h0 : depthIn (tableL xs) t ≠ 0) {a : Ty} (ha : a ∈ argsOf xs t k) :
    TyIn xs.length a ∧ depthIn (tableL xs) a ≠ 0 ∧ depthIn (tableL xs) a + 1 ≤ depthIn (tableL xs) t := by
  have e : mostIn xs (tableL xs) t k = depthIn (tableL xs) t := by unfold isLeast at hl; exact eq_of_beq hl
  have hs := sound_tableL hw
  have hne := mostGo_ne (tab := tableL xs) (ls := argsOf xs t k) (m := 0) (by show mostIn xs (tableL xs) t k ≠ 0; rw [e]; exact h0)
  have hp := (mostGo_pos hs.dpos (Int.le_refl 0) hne).2 a ha
  have h2 : mostGo (tableL xs) 0 (argsOf xs t k) = mostIn xs (tableL xs) t k := rfl
  exact ⟨argsOf_in hw ht hk ha, hne a ha, by omega⟩
theorem argsOf_len3 {xs : List Dt} (hw : WorldOK xs) {t : Ty} (ht : TyIn xs.length t) {k : Int} (hk : k ∈ ctorsL xs t) : (argsOf xs t k).length ≤ 3 := by
  rcases ht with h | ⟨d, i, rfl, h1, h2⟩
  · rw [ctorsL_int h] at hk; cases hk
  · obtain ⟨d', m, e1, rfl, hd, hm⟩ := mem_ctorsL (.inr ⟨d, rfl, h1⟩) hk
    obtain rfl : d = d' := Int.ofNat.inj e1
    rw [argsOf_get hd hm, argsL_len]
    exact (hw.ctor hd hm).args
theorem sizes_map_le {α : Type} (f : α → V) (b : Nat) : ∀ (l : List α), (∀ a ∈ l, nodes (f a) ≤ b) → V.sizes (l.map f) ≤ l.length * b
  | [], _ => by simp [V.sizes]
  | a :: l, h => by
    have h1 := h a (by simp)
    have h2 := sizes_map_le f b l fun x hx => h x (by simp [hx])
    simp only [List.map_cons, V.sizes, List.length_cons]
    unfold nodes at h1
    rw [Nat.add_mul]
    omega
theorem leastV_nodes {xs : List Dt} (hw : WorldOK xs) : ∀ (n : Nat) (t : Ty), TyIn xs.length t → nodes (leastV xs n t) ≤ 4 ^ n
  | 0, t, _ => by simp [leastV, nodes, V.size, V.sizes]
  | n + 1, t, ht => by
    have hp : 1 ≤ 4 ^ n := Nat.one_le_pow _ _ (by omega)
    have h4 : 4 ^ (n + 1) = 4 ^ n * 4 := Nat.pow_succ ..
    by_cases hd : t.d = -1
    · rw [leastV_int hd]; simp [nodes, V.size, V.sizes]; omega
    · cases hf : (ctorsL xs t).find? (isLeast xs t) with
      | none => rw [leastV_none hd hf]; simp [nodes, V.size, V.sizes]; omega
      | some k =>
        rw [leastV_some hd hf]
        have hk := List.mem_of_find?_eq_some hf
        have h1 := sizes_map_le (leastV xs n) (4 ^ n) (argsOf xs t k) fun a ha => leastV_nodes hw n a (argsOf_in hw ht hk ha)
        have h3 := argsOf_len3 hw ht hk
        have h5 : (argsOf xs t k).length * 4 ^ n ≤ 3 * 4 ^ n := Nat.mul_le_mul_right _ h3
        rw [nodes_ks]
        simp only
        omega
theorem leastV_small {xs : List Dt} (hw : WorldOK xs) {n : Nat} (hn : n ≤ 10) {t : Ty} (ht : TyIn xs.length t) : (leastV xs n t).size ≤ 1048576 := by
  have h1 := leastV_nodes hw n t ht
  have h2 : 4 ^ n ≤ 4 ^ 10 := Nat.pow_le_pow_right (by omega) hn
  have h3 : (4 : Nat) ^ 10 = 1048576 := by decide
  unfold nodes at h1
  omega
/-- the kids made so far -/
def leastTo (xs : List Dt) (n : Nat) (as' : List Ty) (i : Nat) : List V := (as'.take i).map (leastV xs n)
theorem leastTo_succ (xs : List Dt) (n : Nat) (l : List Ty) (i : Nat) (h : i < l.length) : leastTo xs n l (i + 1) = leastTo xs n l i ++ [leastV xs n l[i]] := by
  unfold leastTo
  rw [take_snoc' l i h, List.map_append]; rfl
theorem leastTo_all (xs : List Dt) (n : Nat) (l : List Ty) {i : Nat} (h : l.length ≤ i) : leastTo xs n l i = l.map (leastV xs n) := by unfold leastTo; rw [List.take_of_length_le h]
theorem leastTo_len (xs : List Dt) (n : Nat) (l : List Ty) (i : Nat) : (leastTo xs n l i).length ≤ i := by unfold leastTo; rw [List.length_map, List.length_take]; omega
/-- what LeastValue gives -/
def leastFine (xs : List Dt) (t : Ty) : Bool := typeValidB xs t && (withinB (depthIn (tableL xs) t) 1 10 && valueOkB xs t (leastV xs 10 t))
def leastR (xs : List Dt) (t : Ty) : V := if leastFine xs t = true then leastV xs 10 t else ⟨0, 0, []⟩
theorem leastR_size (xs : List Dt) (t : Ty) : (leastR xs t).size ≤ 60 := by
  unfold leastR
  split
  · rename_i h
    unfold leastFine valueOkB nodes at h
    simp only [Bool.and_eq_true, decide_eq_true_eq] at h
    omega
  · simp [V.size, V.sizes]
end Go.Proofs.Ytilndhmegaccmaa

namespace Go.Proofs.Ytilndhmegaccmaa
open Go.RowKit

mutual
def V.depth : V → Nat
  | ⟨_, _, ks⟩ => V.depths ks + 1
def V.depths : List V → Nat
  | [] => 0
  | k :: ks => max (V.depth k) (V.depths ks)
end
theorem V.depths_snoc (l : List V) (x : V) : V.depths (l ++ [x]) = max (V.depths l) x.depth := by
  induction l with
  | nil => simp [V.depths]
  | cons k l ih => simp only [List.cons_append, V.depths, ih]; omega
theorem V.depths_le (ks : List V) (h : ∀ k ∈ ks, V.depth k ≤ V.size k + 1) : V.depths ks ≤ V.sizes ks := by
  induction ks with
  | nil => simp [V.depths]
  | cons k ks ih =>
    simp only [V.depths, V.sizes]
    have h1 := h k (by simp)
    have h2 := ih fun x hx => h x (by simp [hx])
    omega
theorem V.depth_le : ∀ v : V, v.depth ≤ v.size + 1 := V.ind fun c n ks ih => by
  simp only [V.depth, V.size]
  have := V.depths_le ks ih
  omega
theorem V.depths_take_succ (l : List V) (k : Nat) (h : k < l.length) : V.depths (l.take (k + 1)) = max (V.depths (l.take k)) l[k].depth := by
  rw [take_snoc' l k h, V.depths_snoc]
theorem V.sizes_mem (l : List V) (k : Nat) (h : k < l.length) : l[k].size + 1 ≤ V.sizes l := by
  have := V.size_lt l k h
  omega
theorem V.depths_take_le (l : List V) (k : Nat) : V.depths (l.take k) ≤ V.sizes l := by
  have h1 := V.depths_le (l.take k) (fun x _ => V.depth_le x)
  have h2 := V.sizes_eq (l.take k)
  have h3 := V.subs_take_le l k
  have h4 := V.sizes_eq l
  simp at h2
  omega



def DepthImpl (v : V) : Prop := ∀ (w : World) (cs : List Value) (F : List Nat), VR w v cs F → Under w.heap.size F → v.size ≤ 1048576 →
  Calls Try.prog 30 #[.agg cs.toArray] w fun e w' => e = .returned (.int .i64 v.depth) ∧ Below w.heap.size w w'

set_option maxHeartbeats 400000 in
theorem impl_DepthOf_all : ∀ v, DepthImpl v := V.ind fun c n ks ih w cs F hv hF hz => by
  obtain ⟨kv, rfl, hk⟩ := (VR_iff _ _ _).1 hv
  have hz' : V.sizes ks ≤ 1048576 := hz
  have hn : ks.length ≤ 1048576 := by rw [V.sizes_eq] at hz'; omega
  have HZ := Lib.hid hz'
  clear hz hz'
  have IH := Lib.hid ih
  clear ih hv
  obtain ⟨A, cap, rfl, -, -⟩ := hk.form
  have HK := Lib.hid hk
  clear hk
  have HF := Lib.hid hF
  clear hF
  go_enter Try.func30, Try.ntmps30
  go_wp2
  have hB0 : Below w.heap.size w (w.alloc (.cells #[.int .i64 c, .int .i64 n, .slice A ks.length cap] 53)) := (Below.refl _ _).alloc (Nat.le_refl _) _
  go_loopw [3, 9] (fun m i wr => ∃ k d : Nat, k ≤ ks.length ∧ i = .int .i64 k ∧ m = .int .i64 d ∧ d ≤ 1048576 ∧ Hid (d = V.depths (ks.take k)) ∧ Below w.heap.size w wr) (fun _ i _ => ks.length - (intOf i).toNat)
  case atStart => exact ⟨0, 0, Nat.zero_le _, rfl, rfl, by omega, by simp [Hid, V.depths], hB0⟩
  case round =>
    obtain ⟨k, d, hk, rfl, rfl, hd, HD, hB⟩ := hrel
    clear hB0
    by_cases hlt : k < ks.length
    · obtain ⟨b, off, cs, G, rfl, hb, hcs, hv, hG⟩ := HK.out.get VR_len hlt
      have hbl := HF.out b hb
      have hGF := HF.out.sub hG
      have hv1 := hv.below hB hGF
      have hcs1 := hcs.same (hB.block b hbl)
      obtain ⟨kv, rfl, ha⟩ := (VR_iff _ _ _).1 hv
      obtain ⟨A', cap', rfl, -, -⟩ := ha.form
      have c0 := hcs1 0 _ rfl
      have c1 := hcs1 1 _ rfl
      have c2 := hcs1 2 _ rfl
      simp only [Nat.add_zero] at c0
      clear hcs hcs1 hv hG ha
      have HV := Lib.hid hv1
      clear hv1
      have HG := Lib.hid hGF
      clear hGF
      go_wp2_with fail
      have hB1 := hB.alloc hB.size (.cells #[.int .i64 ks[k].c, .int .i64 ks[k].n, .slice A' ks[k].ks.length cap'] 53)
      refine (IH.out _ (List.getElem_mem hlt) _ _ G (HV.out.below ((Below.refl wr.heap.size wr).alloc (Nat.le_refl _) _) (HG.out.mono hB.size)) (HG.out.mono hB1.size) (by have := V.sizes_mem ks k hlt; have := HZ.out; omega)).mono ?_
      rintro e w' ⟨rfl, hB'⟩
      have hB2 := hB1.trans (hB'.mono hB1.size)
      have hs := V.depths_take_succ ks k hlt
      have hle : ks[k].depth ≤ 1048576 := by have := V.depth_le ks[k]; have := V.sizes_mem ks k hlt; have := HZ.out; omega
      have HS : Hid (max d ks[k].depth = V.depths (ks.take (k + 1))) := by rw [hs, ← HD.out]; rfl
      clear hs
      generalize ks[k].depth = e at *
      have hme : max d e ≤ 1048576 := by omega
      by_cases hde : d < e
      · have HS2 : Hid (e = V.depths (ks.take (k + 1))) := by rw [← HS.out]; unfold Hid; omega
        clear HS
        go_wp2
        go_roundw
        case rel => exact ⟨k + 1, e, by omega, by go_num, rfl, hle, HS2, hB2⟩
        case measure => simp [intOf]; omega
      · have HS2 : Hid (d = V.depths (ks.take (k + 1))) := by rw [← HS.out]; unfold Hid; omega
        clear HS
        go_wp2
        go_roundw
        case rel => exact ⟨k + 1, d, by omega, by go_num, rfl, hd, HS2, hB2⟩
        case measure => simp [intOf]; omega
    · have HS : Hid (((d : Int) + 1) = ((V.depth ⟨c, n, ks⟩ : Nat) : Int)) := by
        have := HD.out
        rw [List.take_of_length_le (by omega)] at this
        simp only [V.depth, Hid]; omega
      go_wp2
      go_ret
      exact ⟨ret_int HS.out, hB⟩
theorem impl_DepthOf (v : V) (w : World) (cs : List Value) (F : List Nat) (hv : VR w v cs F) (hF : Under w.heap.size F) (hz : v.size ≤ 1048576) :
    Calls Try.prog 30 #[.agg cs.toArray] w fun e w' => e = .returned (.int .i64 v.depth) ∧ Below w.heap.size w w' := impl_DepthOf_all v w cs F hv hF hz
end Go.Proofs.Ytilndhmegaccmaa

namespace Go.Proofs.Ytilndhmegaccmaa
open Go.RowKit

def lessI (a b : Int) : Int := if a < b then -1 else if b < a then 1 else 0
theorem lessI_lt {a b : Int} (h : a < b) : lessI a b = -1 := if_pos h
theorem lessI_gt {a b : Int} (h : b < a) : lessI a b = 1 := by unfold lessI; rw [if_neg (by omega), if_pos h]
theorem lessI_eq (a : Int) : lessI a a = 0 := by unfold lessI; simp
mutual
def V.cmp : V → V → Int
  | ⟨c, n, ks⟩, ⟨c', n', ks'⟩ => if c = c' then (if n = n' then V.cmps ks ks' else lessI n n') else lessI c c'
def V.cmps : List V → List V → Int
  | [], [] => 0
  | [], _ :: _ => -1
  | _ :: _, [] => 1
  | x :: xs, y :: ys => if V.cmp x y = 0 then V.cmps xs ys else V.cmp x y
end
theorem lessI_range (a b : Int) : -1 ≤ lessI a b ∧ lessI a b ≤ 1 := by
  unfold lessI
  split
  · omega
  · split <;> omega
theorem V.cmps_range_of (ks : List V) (h : ∀ k ∈ ks, ∀ b, -1 ≤ V.cmp k b ∧ V.cmp k b ≤ 1) : ∀ ks', -1 ≤ V.cmps ks ks' ∧ V.cmps ks ks' ≤ 1 := by
  induction ks with
  | nil => intro ks'; cases ks' <;> simp [V.cmps]
  | cons x xs ih =>
    intro ks'
    cases ks' with
    | nil => simp [V.cmps]
    | cons y ys =>
      simp only [V.cmps]
      split
      · exact ih (fun k hk => h k (by simp [hk])) ys
      · exact h x (by simp) y
theorem V.cmp_range : ∀ a b : V, -1 ≤ V.cmp a b ∧ V.cmp a b ≤ 1 := V.ind fun c n ks ih b => by
  obtain ⟨c', n', ks'⟩ := b
  simp only [V.cmp]
  split
  · split
    · exact V.cmps_range_of ks ih ks'
    · exact lessI_range _ _
  · exact lessI_range _ _
theorem V.cmps_drop (ks ks' : List V) (k : Nat) (h : k < ks.length) (h' : k < ks'.length) : V.cmps (ks.drop k) (ks'.drop k) = if V.cmp ks[k] ks'[k] = 0 then V.cmps (ks.drop (k + 1)) (ks'.drop (k + 1)) else V.cmp ks[k] ks'[k] := by
  rw [List.drop_eq_getElem_cons h, List.drop_eq_getElem_cons h', V.cmps]
theorem V.cmps_end (ks ks' : List V) (k : Nat) (h : k ≤ ks.length) (h' : k ≤ ks'.length) (he : k = ks.length ∨ k = ks'.length) : V.cmps (ks.drop k) (ks'.drop k) = lessI ks.length ks'.length := by
  rcases he with rfl | rfl
  · rw [List.drop_length]
    rcases Nat.lt_or_ge ks.length ks'.length with hl | hl
    · rw [List.drop_eq_getElem_cons hl, V.cmps, lessI_lt (by omega)]
    · have : ks'.length = ks.length := by omega
      rw [List.drop_of_length_le hl, V.cmps, this, lessI_eq]
  · rw [List.drop_length]
    rcases Nat.lt_or_ge ks'.length ks.length with hl | hl
    · rw [List.drop_eq_getElem_cons hl, V.cmps, lessI_gt (by omega)]
    · have : ks.length = ks'.length := by omega
      rw [List.drop_of_length_le hl, V.cmps, this, lessI_eq]


set_option maxHeartbeats 400000 in
theorem cmp_isNaN (a : Int) (w : World) : Calls Try.prog 122 #[.int .i64 a] w fun e w' => e = .returned (.bool false) ∧ w = w' := by
  have h : (a != a) = false := by simp
  go_enter Try.func122, Try.ntmps122
  go_wp2
  go_ret
  exact ⟨rfl, rfl⟩

set_option maxHeartbeats 400000 in
theorem cmp_Compare (a b : Int) (w : World) : Calls Try.prog 77 #[.int .i64 a, .int .i64 b] w fun e w' => e = .returned (.int .i64 (lessI a b)) ∧ w = w' := by
  by_cases h : a < b
  · have hf := Lib.hid (lessI_lt h)
    go_enter Try.func77, Try.ntmps77
    go_wp2_with (go_at_call 122; refine (cmp_isNaN _ _).mono ?_; rintro e w' ⟨rfl, rfl⟩)
    go_ret
    exact ⟨ret_int hf.out.symm, rfl⟩
  · by_cases h2 : b < a
    · have hf := Lib.hid (lessI_gt h2)
      go_enter Try.func77, Try.ntmps77
      go_wp2_with (go_at_call 122; refine (cmp_isNaN _ _).mono ?_; rintro e w' ⟨rfl, rfl⟩)
      go_ret
      exact ⟨ret_int hf.out.symm, rfl⟩
    · obtain rfl : a = b := by omega
      have hf := Lib.hid (lessI_eq a)
      clear h h2
      have h : ¬ a < a := by omega
      go_enter Try.func77, Try.ntmps77
      go_wp2_with (go_at_call 122; refine (cmp_isNaN _ _).mono ?_; rintro e w' ⟨rfl, rfl⟩)
      go_ret
      exact ⟨ret_int hf.out.symm, rfl⟩


end Go.Proofs.Ytilndhmegaccmaa

namespace Go.Proofs.Ytilndhmegaccmaa
open Go.RowKit

mutual
def V.same : V → V → Bool
  | ⟨c, n, ks⟩, ⟨c', n', ks'⟩ => (c == c') && (n == n') && V.sames ks ks'
def V.sames : List V → List V → Bool
  | [], [] => true
  | x :: xs, y :: ys => V.same x y && V.sames xs ys
  | [], _ :: _ => false
  | _ :: _, [] => false
end
theorem V.sames_iff_of (ks : List V) (h : ∀ k ∈ ks, ∀ b, V.same k b = true ↔ k = b) : ∀ ks', V.sames ks ks' = true ↔ ks = ks' := by
  induction ks with
  | nil => intro ks'; cases ks' <;> simp [V.sames]
  | cons x xs ih =>
    intro ks'
    cases ks' with
    | nil => simp [V.sames]
    | cons y ys =>
      simp only [V.sames, Bool.and_eq_true, List.cons.injEq]
      rw [h x (by simp) y, ih (fun k hk => h k (by simp [hk])) ys]
theorem V.same_iff : ∀ a b : V, V.same a b = true ↔ a = b := V.ind fun c n ks ih b => by
  obtain ⟨c', n', ks'⟩ := b
  simp only [V.same, Bool.and_eq_true, V.sames_iff_of ks ih, beq_iff_eq, V.mk.injEq, and_assoc]
theorem V.same_false {a b : V} (h : a ≠ b) : V.same a b = false := by
  rw [Bool.eq_false_iff]
  exact fun e => h ((V.same_iff a b).1 e)



end Go.Proofs.Ytilndhmegaccmaa

namespace Go.Proofs.Ytilndhmegaccmaa
open Go.RowKit

def InAll : List V → List (List V) → Prop
  | [], [] => True
  | k :: ks, l :: ls => k ∈ l ∧ InAll ks ls
  | _, _ => False
theorem mem_pairFold : ∀ (ls : List (List V)) (A : List (List V)) (ks : List V), ks ∈ ls.foldl pairL A ↔ ∃ o ∈ A, ∃ m, ks = o ++ m ∧ InAll m ls
  | [], A, ks => by
    rw [List.foldl_nil]
    constructor
    · intro h; exact ⟨ks, h, [], by simp, trivial⟩
    · rintro ⟨o, ho, m, rfl, hm⟩
      cases m with
      | nil => simpa using ho
      | cons k m => exact hm.elim
  | l :: ls, A, ks => by
    rw [List.foldl_cons, mem_pairFold ls]
    constructor
    · rintro ⟨o', ho', m, rfl, hm⟩
      obtain ⟨o, ho, h⟩ := List.mem_flatMap.1 ho'
      obtain ⟨k, hk, rfl⟩ := List.mem_map.1 h
      exact ⟨o, ho, k :: m, by simp, hk, hm⟩
    · rintro ⟨o, ho, m, rfl, hm⟩
      cases m with
      | nil => exact hm.elim
      | cons k m => exact ⟨o ++ [k], List.mem_flatMap.2 ⟨o, ho, List.mem_map.2 ⟨k, hm.1, rfl⟩⟩, m, by simp, hm.2⟩
theorem mem_pairAll (ls : List (List V)) (ks : List V) : ks ∈ pairAll ls ↔ InAll ks ls := by
  unfold pairAll
  rw [mem_pairFold]
  constructor
  · rintro ⟨o, ho, m, rfl, hm⟩
    rw [List.mem_singleton] at ho
    subst ho
    exact hm
  · intro h; exact ⟨[], by simp, ks, rfl, h⟩
theorem inAll_fits {xs : List Dt} {d : Nat} (ih : ∀ t v, v ∈ valsL xs d t ↔ fitsV xs d t v = true) : ∀ (as' : List Ty) (ks : List V), InAll ks (as'.map (valsL xs d)) ↔ (ks.length = as'.length ∧ zipAll (fitsV xs d) as' ks = true)
  | [], [] => by simp [InAll, zipAll]
  | [], k :: ks => by simp [InAll]
  | a :: as', [] => by simp [InAll]
  | a :: as', k :: ks => by
    simp only [List.map_cons, InAll, List.length_cons, zipAll, Bool.and_eq_true, inAll_fits ih as' ks, ih a k]
    constructor
    · rintro ⟨h1, h2, h3⟩; exact ⟨by omega, h1, h3⟩
    · rintro ⟨h1, h2, h3⟩; exact ⟨h2, by omega, h3⟩
theorem mem_nums (v : V) : v ∈ numsL 10 ↔ isNum v = true := by
  unfold numsL isNum
  rw [List.mem_map, Bool.and_eq_true, Bool.and_eq_true, withinB_iff, beq_iff_eq, decide_eq_true_iff]
  obtain ⟨c, n, ks⟩ := v
  simp only [numV]
  constructor
  · rintro ⟨k, hk, e⟩
    injection e with e1 e2 e3
    have hk : k < 10 := by simpa using hk
    subst e1 e2 e3
    exact ⟨rfl, by omega, rfl⟩
  · rintro ⟨rfl, h, h3⟩
    obtain rfl := List.length_eq_zero_iff.1 h3
    exact ⟨n.toNat, by simp; omega, by congr; omega⟩
/-- the values of a type up to a depth are those that fit -/
theorem mem_vals (xs : List Dt) : ∀ (d : Nat) (t : Ty) (v : V), v ∈ valsL xs d t ↔ fitsV xs d t v = true
  | 0, t, v => by rw [valsL, fitsV]; simp
  | d + 1, t, v => by
    by_cases h : t.d = -1
    · rw [valsL_int h, fitsV_int h]; exact mem_nums v
    · rw [valsL, if_neg h, fitsV_data h, List.mem_flatMap, Bool.and_eq_true, Bool.and_eq_true, Bool.and_eq_true, hasB_iff, beq_iff_eq, decide_eq_true_iff, ← inAll_fits (mem_vals xs d)]
      constructor
      · rintro ⟨c, hc, hv⟩
        rw [growAll_pairs, List.mem_map] at hv
        obtain ⟨ks, hk, rfl⟩ := hv
        rw [mem_pairAll] at hk
        exact ⟨rfl, hc, hk⟩
      · rintro ⟨h1, h2, h3⟩
        refine ⟨v.c, h2, ?_⟩
        rw [growAll_pairs, List.mem_map]
        refine ⟨v.ks, (mem_pairAll _ _).2 h3, ?_⟩
        obtain ⟨c, n, ks⟩ := v
        simp only at h1
        subst h1
        rfl
theorem zipAll_of {f g : Ty → V → Bool} : ∀ {ls : List Ty} {ks : List V}, (∀ a ∈ ls, ∀ k ∈ ks, f a k = true → g a k = true) → zipAll f ls ks = true → zipAll g ls ks = true
  | [], ks, _, _ => by cases ks <;> rfl
  | a :: ls, [], _, _ => rfl
  | a :: ls, k :: ks, h, hz => by
    rw [zipAll, Bool.and_eq_true] at hz ⊢
    exact ⟨h a (by simp) k (by simp) hz.1, zipAll_of (fun a ha k hk => h a (by simp [ha]) k (by simp [hk])) hz.2⟩
theorem depths_mem {l : List V} {k : V} (h : k ∈ l) : k.depth ≤ V.depths l := by
  induction l with
  | nil => cases h
  | cons a l ih =>
    simp only [V.depths]
    rcases List.mem_cons.1 h with rfl | h
    · omega
    · have := ih h; omega
theorem depth_ks (v : V) : v.depth = V.depths v.ks + 1 := by obtain ⟨c, n, ks⟩ := v; rfl
/-- what fits at some depth, fits at every depth that holds it -/
theorem fitsV_at (xs : List Dt) : ∀ (d : Nat) (t : Ty) (v : V), fitsV xs d t v = true → ∀ e, v.depth ≤ e → fitsV xs e t v = true
  | 0, t, v, h, e, _ => by rw [fitsV] at h; cases h
  | d + 1, t, v, h, e, he => by
    rw [depth_ks] at he
    obtain ⟨e, rfl⟩ : ∃ k, e = k + 1 := ⟨e - 1, by omega⟩
    by_cases ht : t.d = -1
    · rw [fitsV_int ht] at h ⊢; exact h
    · rw [fitsV_data ht] at h ⊢
      simp only [Bool.and_eq_true] at h ⊢
      obtain ⟨h1, h2, h3, h4⟩ := h
      refine ⟨h1, h2, h3, zipAll_of (fun a ha k hk hf => fitsV_at xs d a k hf e ?_) h4⟩
      have := depths_mem hk
      omega
theorem depths_le {l : List V} {d : Nat} (h : ∀ k ∈ l, k.depth ≤ d) : V.depths l ≤ d := by
  induction l with
  | nil => simp [V.depths]
  | cons a l ih =>
    simp only [V.depths]
    have h1 := h a (by simp)
    have h2 := ih fun k hk => h k (by simp [hk])
    omega
theorem zipAll_each {f : Ty → V → Bool} {p : V → Prop} : ∀ {ls : List Ty} {ks : List V}, ks.length = ls.length → (∀ a ∈ ls, ∀ k, f a k = true → p k) → zipAll f ls ks = true → ∀ k ∈ ks, p k
  | _, [], _, _, _ => fun k hk => by cases hk
  | [], k :: ks, h, _, _ => by simp at h
  | a :: ls, k :: ks, hl, h, hz => fun k' hk' => by
    rw [zipAll, Bool.and_eq_true] at hz
    rcases List.mem_cons.1 hk' with rfl | hk'
    · exact h a (by simp) _ hz.1
    · exact zipAll_each (by simpa using hl) (fun a ha => h a (by simp [ha])) hz.2 k' hk'
theorem fits_depth (xs : List Dt) : ∀ (d : Nat) (t : Ty) (v : V), fitsV xs d t v = true → v.depth ≤ d
  | 0, t, v, h => by rw [fitsV] at h; cases h
  | d + 1, t, v, h => by
    rw [depth_ks]
    by_cases ht : t.d = -1
    · rw [fitsV_int ht] at h
      unfold isNum at h
      simp only [Bool.and_eq_true, decide_eq_true_iff] at h
      rw [List.length_eq_zero_iff.1 h.2.2]
      simp [V.depths]
    · rw [fitsV_data ht] at h
      simp only [Bool.and_eq_true, decide_eq_true_iff] at h
      obtain ⟨h1, h2, h3, h4⟩ := h
      have := depths_le (zipAll_each (p := fun k => k.depth ≤ d) h3 (fun a _ k hk => fits_depth xs d a k hk) h4)
      omega
def nodesTo : Nat → Nat
  | 0 => 0
  | d + 1 => 1 + 3 * nodesTo d
theorem sizes_le {b : Nat} : ∀ {l : List V}, (∀ k ∈ l, nodes k ≤ b) → V.sizes l ≤ l.length * b
  | [], _ => by simp [V.sizes]
  | k :: l, h => by
    have h1 := h k (by simp)
    have h2 := sizes_le fun x hx => h x (List.mem_cons_of_mem _ hx)
    simp only [V.sizes, List.length_cons, Nat.succ_mul]
    unfold nodes at h1
    omega
theorem fits_nodes {xs : List Dt} (hw : WorldOK xs) : ∀ (d : Nat) (t : Ty) (_ : TyIn xs.length t) (v : V), fitsV xs d t v = true → nodes v ≤ nodesTo d
  | 0, t, _, v, h => by rw [fitsV] at h; cases h
  | d + 1, t, ht', v, h => by
    rw [nodes_ks, nodesTo]
    by_cases ht : t.d = -1
    · rw [fitsV_int ht] at h
      unfold isNum at h
      simp only [Bool.and_eq_true, decide_eq_true_iff] at h
      rw [List.length_eq_zero_iff.1 h.2.2]
      simp [V.sizes]
    · rw [fitsV_data ht] at h
      simp only [Bool.and_eq_true, decide_eq_true_iff] at h
      obtain ⟨h1, h2, h3, h4⟩ := h
      rw [hasB_iff] at h2
      have h5 := sizes_le (zipAll_each (p := fun k => nodes k ≤ nodesTo d) h3 (fun a ha k hk => fits_nodes hw d a (argsOf_in hw ht' h2 ha) k hk) h4)
      have h6 := argsOf_len3 hw ht' h2
      have h7 : v.ks.length * nodesTo d ≤ 3 * nodesTo d := Nat.mul_le_mul_right _ (by omega)
      omega
/-- values up to depth 4 are valid -/
theorem vals_ok {xs : List Dt} (hw : WorldOK xs) {d : Nat} (hd : d ≤ 4) {t : Ty} (ht : TyIn xs.length t) {v : V} (h : v ∈ valsL xs d t) : valueOkB xs t v = true := by
  have h1 := (mem_vals xs d t v).1 h
  have h2 := fits_depth xs d t v h1
  have h3 := fitsV_at xs d t v h1 4 (by omega)
  have h4 := fits_nodes hw 4 t ht v h3
  unfold valueOkB
  rw [fitsV_at xs d t v h1 10 (by omega), Bool.true_and, decide_eq_true_iff]
  have : nodesTo 4 = 40 := rfl
  omega
theorem vals_small {xs : List Dt} (hw : WorldOK xs) {d : Nat} (hd : d ≤ 4) {t : Ty} (ht : TyIn xs.length t) {v : V} (h : v ∈ valsL xs d t) : nodes v ≤ 60 ∧ v.depth ≤ d := by
  have h1 := (mem_vals xs d t v).1 h
  have h2 := fits_depth xs d t v h1
  have h3 := fitsV_at xs d t v h1 4 (by omega)
  have h4 := fits_nodes hw 4 t ht v h3
  have : nodesTo 4 = 40 := rfl
  exact ⟨by omega, h2⟩

/-- order -/
def Asc (l : List V) : Prop := l.Pairwise fun a b => V.cmp a b = -1
theorem cmps_app : ∀ (a b x y : List V), a.length = b.length → V.cmps (a ++ x) (b ++ y) = if V.cmps a b = 0 then V.cmps x y else V.cmps a b
  | [], [], x, y, _ => by simp [V.cmps]
  | [], _ :: _, _, _, h => by simp at h
  | _ :: _, [], _, _, h => by simp at h
  | p :: a, q :: b, x, y, h => by
    have := cmps_app a b x y (by simpa using h)
    simp only [List.cons_append, V.cmps]
    split
    · exact this
    · rename_i h1; simp [h1]
theorem cmps_refl_of (ks : List V) (h : ∀ k ∈ ks, V.cmp k k = 0) : V.cmps ks ks = 0 := by
  induction ks with
  | nil => simp [V.cmps]
  | cons k ks ih => simp only [V.cmps]; rw [if_pos (h k (by simp)), ih fun x hx => h x (by simp [hx])]
theorem cmp_refl : ∀ v : V, V.cmp v v = 0 := V.ind fun c n ks ih => by
  simp only [V.cmp, if_true]
  exact cmps_refl_of ks ih
theorem cmps_refl (ks : List V) : V.cmps ks ks = 0 := cmps_refl_of ks fun k _ => cmp_refl k
theorem pairL_asc {j : Nat} {A : List (List V)} (hA : A.Pairwise fun a b => V.cmps a b = -1) (hj : ∀ o ∈ A, o.length = j) {l : List V} (hl : Asc l) : (pairL A l).Pairwise (fun a b => V.cmps a b = -1) ∧ ∀ o ∈ pairL A l, o.length = j + 1 := by
  constructor
  · unfold pairL
    rw [List.pairwise_flatMap]
    constructor
    · intro o ho
      unfold pairK
      rw [List.pairwise_map]
      refine List.Pairwise.imp (fun h => ?_) hl
      rw [cmps_app _ _ _ _ rfl, if_pos (cmps_refl o)]
      simp only [V.cmps]
      rw [if_neg (by omega)]
      exact h
    · refine List.Pairwise.imp_of_mem (fun {o o'} ho ho' h x hx y hy => ?_) hA
      obtain ⟨k, hk, rfl⟩ := List.mem_map.1 hx
      obtain ⟨k', hk', rfl⟩ := List.mem_map.1 hy
      rw [cmps_app _ _ _ _ ((hj o ho).trans (hj o' ho').symm), if_neg (by omega)]
      exact h
  · intro o ho
    obtain ⟨o', h1, h2⟩ := List.mem_flatMap.1 ho
    obtain ⟨k, _, rfl⟩ := List.mem_map.1 h2
    rw [List.length_append, hj o' h1]
    rfl
theorem pairFold_asc : ∀ (ls : List (List V)) (_ : ∀ l ∈ ls, Asc l) (j : Nat) (A : List (List V)), (A.Pairwise fun a b => V.cmps a b = -1) → (∀ o ∈ A, o.length = j) → (ls.foldl pairL A).Pairwise fun a b => V.cmps a b = -1
  | [], _, _, A, h, _ => h
  | l :: ls, hl, j, A, h, hj => by
    rw [List.foldl_cons]
    have := pairL_asc h hj (hl l (by simp))
    exact pairFold_asc ls (fun x hx => hl x (by simp [hx])) (j + 1) _ this.1 this.2
theorem growAll_asc {c : Int} {ls : List (List V)} (h : ∀ l ∈ ls, Asc l) : Asc (growAll c ls) := by
  unfold Asc
  rw [growAll_pairs, List.pairwise_map]
  refine List.Pairwise.imp (fun h => ?_) (pairFold_asc ls h 0 [[]] (by simp) (by simp))
  simp only [headV, V.cmp, if_true]
  exact h
theorem growAll_c {c : Int} {ls : List (List V)} {v : V} (h : v ∈ growAll c ls) : v.c = c := by
  rw [growAll_pairs, List.mem_map] at h
  obtain ⟨ks, _, rfl⟩ := h
  rfl
theorem asc_pairwise {l : List Int} (h : ∀ a (ha : a + 1 < l.length), l[a] < l[a + 1]) : l.Pairwise (· < ·) := by
  rw [List.pairwise_iff_getElem]
  intro i j hi hj hij
  have : ∀ k (hk : i + k + 1 < l.length), l[i] < l[i + k + 1] := by
    intro k
    induction k with
    | zero => intro hk; exact h i hk
    | succ k ih =>
      intro hk
      have h1 := ih (by omega)
      have h2 := h (i + k + 1) hk
      exact Int.lt_trans h1 h2
  have h2 := this (j - i - 1) (by omega)
  simp only [show i + (j - i - 1) + 1 = j by omega] at h2
  exact h2
theorem nums_asc (n : Nat) : Asc (numsL n) := by
  unfold Asc numsL
  rw [List.pairwise_map]
  refine List.Pairwise.imp (fun {a b} h => ?_) List.pairwise_lt_range
  have h : a < b := h
  simp only [numV, V.cmp, if_true]
  rw [if_neg (by omega), lessI_lt (by omega)]
theorem vals_asc {xs : List Dt} (hw : WorldOK xs) : ∀ (d : Nat) (t : Ty), TyIn xs.length t → Asc (valsL xs d t)
  | 0, t, _ => by rw [valsL]; exact List.Pairwise.nil
  | d + 1, t, ht' => by
    by_cases ht : t.d = -1
    · rw [valsL_int ht]; exact nums_asc 10
    · rw [valsL, if_neg ht]
      unfold Asc
      rw [List.pairwise_flatMap]
      constructor
      · intro c hc
        exact growAll_asc fun l hl => by
          obtain ⟨a, ha, rfl⟩ := List.mem_map.1 hl
          exact vals_asc hw d a (argsOf_in hw ht' hc ha)
      · refine List.Pairwise.imp (fun {c c'} h x hx y hy => ?_) (asc_pairwise (ctorsL_sorted ht'.inWorld))
        have h1 := growAll_c hx
        have h2 := growAll_c hy
        obtain ⟨c1, n1, k1⟩ := x
        obtain ⟨c2, n2, k2⟩ := y
        simp only at h1 h2
        subst h1 h2
        simp only [V.cmp]
        rw [if_neg (by omega), lessI_lt h]
theorem vals_step {xs : List Dt} (hw : WorldOK xs) {d : Nat} {t : Ty} (ht : TyIn xs.length t) (i : Nat) (h : i + 1 < (valsL xs d t).length) : V.cmp (valsL xs d t)[i] (valsL xs d t)[i + 1] = -1 :=
  List.pairwise_iff_getElem.1 (vals_asc hw d t ht) i (i + 1) (by omega) h (by omega)

/-- less depth, fewer values -/
theorem sub_flatMap {α β : Type} {f g : α → List β} : ∀ (l : List α), (∀ a ∈ l, (f a).Sublist (g a)) → (l.flatMap f).Sublist (l.flatMap g)
  | [], _ => List.Sublist.refl _
  | a :: l, h => by
    rw [List.flatMap_cons, List.flatMap_cons]
    exact List.Sublist.append (h a (by simp)) (sub_flatMap l fun x hx => h x (by simp [hx]))
theorem flatMap_sub {α β : Type} (f : α → List β) {A B : List α} (h : A.Sublist B) : (A.flatMap f).Sublist (B.flatMap f) := by
  induction h with
  | slnil => exact List.Sublist.refl _
  | cons a _ ih => rw [List.flatMap_cons]; exact ih.trans (List.sublist_append_right _ _)
  | cons_cons a _ ih => rw [List.flatMap_cons, List.flatMap_cons]; exact List.Sublist.append (List.Sublist.refl _) ih
theorem pairL_sub {A B : List (List V)} {l m : List V} (h : A.Sublist B) (h2 : l.Sublist m) : (pairL A l).Sublist (pairL B m) :=
  (flatMap_sub _ h).trans (sub_flatMap B fun o _ => by unfold pairK; exact h2.map _)
theorem pairFold_sub {α : Type} {f g : α → List V} (h : ∀ a, (f a).Sublist (g a)) : ∀ (ls : List α) {A B : List (List V)}, A.Sublist B → ((ls.map f).foldl pairL A).Sublist ((ls.map g).foldl pairL B)
  | [], _, _, hA => hA
  | a :: ls, _, _, hA => by
    rw [List.map_cons, List.map_cons, List.foldl_cons, List.foldl_cons]
    exact pairFold_sub h ls (pairL_sub hA (h a))
theorem vals_sub (xs : List Dt) : ∀ (d : Nat) (t : Ty), (valsL xs d t).Sublist (valsL xs (d + 1) t)
  | 0, t => by rw [valsL]; exact List.nil_sublist _
  | d + 1, t => by
    by_cases ht : t.d = -1
    · rw [valsL_int ht, valsL_int ht]; exact List.Sublist.refl _
    · rw [valsL, if_neg ht, valsL, if_neg ht]
      refine sub_flatMap _ fun c _ => ?_
      rw [growAll_pairs, growAll_pairs]
      exact (pairFold_sub (vals_sub xs d) _ (List.Sublist.refl _)).map _
/-- a place in `less` after a place in `list` -/
theorem sub_hit {α : Type} {l m : List α} {k i : Nat} (h : (l.drop k).Sublist (m.drop i)) (hk : k < l.length) (hi : i < m.length) (e : m[i] = l[k]) : (l.drop (k + 1)).Sublist (m.drop (i + 1)) := by
  rw [List.drop_eq_getElem_cons hk, List.drop_eq_getElem_cons hi, e] at h
  exact List.cons_sublist_cons.1 h
theorem sub_skip {α : Type} {a b : α} {l m : List α} (h : (a :: l).Sublist (b :: m)) (e : ¬ b = a) : (a :: l).Sublist m := by
  cases h with
  | cons _ h => exact h
  | cons_cons _ h => exact absurd rfl e
theorem sub_miss {α : Type} {l m : List α} {k i : Nat} (h : (l.drop k).Sublist (m.drop i)) (hk : k < l.length) (hi : i < m.length) (e : ¬ m[i] = l[k]) : (l.drop k).Sublist (m.drop (i + 1)) := by
  rw [List.drop_eq_getElem_cons hk, List.drop_eq_getElem_cons hi] at h
  rw [List.drop_eq_getElem_cons hk]
  exact sub_skip h e
theorem sub_end {α : Type} {l m : List α} {k i : Nat} (h : (l.drop k).Sublist (m.drop i)) (hi : m.length ≤ i) : l.length ≤ k := by
  rw [List.drop_of_length_le hi] at h
  have := h.length_le
  rw [List.length_drop, List.length_nil] at this
  omega
end Go.Proofs.Ytilndhmegaccmaa

namespace Go.Proofs.Ytilndhmegaccmaa
open Go.RowKit

theorem chg_under {F : List Nat} {a b c : World} (h : Chg F a b) (k : Below a.heap.size b c) : Chg F a c :=
  ⟨k.os.trans h.os, k.tape.trans h.tape, k.output.trans h.output, Nat.le_trans h.size k.size, fun i hi hF => (k.block i hi).trans (h.block i hi hF)⟩
theorem free_app {w : World} {F G : List Nat} (hF : Free w F) (hG : Free w G) (hd : ∀ b ∈ F, b ∉ G) : Free w (F ++ G) :=
  ⟨List.nodup_append.2 ⟨hF.1, hG.1, fun a ha b hb e => hd a ha (by rw [e]; exact hb)⟩, fun b hb i => by
    rcases List.mem_append.1 hb with h | h
    · exact hF.2 b h i
    · exact hG.2 b h i⟩
section
variable {α : Type} {w w9 wr wA w7 : World} {D H k : Nat} {T E : TypeId} {cells : Array Value} {R : World → α → List Value → List Nat → Prop} {xs ys : List α} {v v' : Value} {F G : List Nat} {o : Obj}
theorem kid_old (HO : Own wr (D + 1) E k R xs v F) (hBu : Below wr.heap.size wr wA) (hgr : (wA.alloc o).grownBy w7 v.ownBlock) {b : Nat} (hb : b < D + 1) (hbr : b < wr.heap.size) : w7.heap[b]? = wr.heap[b]? := by
  have hl : b < wA.heap.size := Nat.lt_of_lt_of_le hbr hBu.size
  refine ((hgr.block b (by rw [World.size_alloc]; omega) (fun e => ?_)).trans (Below.heap_alloc _ _ _ hl)).trans (hBu.block b hbr)
  have := (HO.row b (mem_rowOf.2 e.symm)).1
  omega
theorem kid_round (j : Nat) (hRm : ∀ w w' x cs G, Kept G w w' → R w x cs G → R w' x cs G) (hw9 : w9.heap.size = D + 1) (KD : Blk wr D T cells) (HO : Own wr (D + 1) E k R xs v F) (HF : Free wr F) (HFh : ∀ b ∈ F, D + 1 ≤ b) (HC : Chg [D] w9 wr) (hB : Below H w wr) (hHD : H ≤ D) (hw : H ≤ w.heap.size)
    (hBu : Below wr.heap.size wr wA) (hfrA : Free wA G) (hfsA : ∀ b ∈ G, wr.heap.size ≤ b ∧ b < wA.heap.size) (hown : Own w7 (D + 1) E k R ys v' (F ++ G)) (hgr : (wA.alloc o).grownBy w7 v.ownBlock) :
    Blk (w7.setCell ⟨D, j, none⟩ v') D T (cells.setIfInBounds j v') ∧ Own (w7.setCell ⟨D, j, none⟩ v') (D + 1) E k R ys v' (F ++ G) ∧ Free (w7.setCell ⟨D, j, none⟩ v') (F ++ G) ∧ (∀ b ∈ F ++ G, D + 1 ≤ b) ∧ Chg [D] w9 (w7.setCell ⟨D, j, none⟩ v') ∧ Below H w (w7.setCell ⟨D, j, none⟩ v') ∧ w9.heap.size ≤ (w7.setCell ⟨D, j, none⟩ v').heap.size := by
  have hlt := KD.lt
  have hA := hBu.size
  have hFG : ∀ b ∈ F ++ G, D + 1 ≤ b := fun b hb => by
    rcases List.mem_append.1 hb with h | h
    · exact HFh b h
    · have := (hfsA b h).1; omega
  have hBA7 : Below (D + 1) wA w7 := ((Below.refl (D + 1) wA).alloc (by omega) o).grown hgr (by rw [World.size_alloc]; omega) (fun g hg => (HO.row g (mem_rowOf.2 hg)).1)
  have hC7 : Chg [D] w9 w7 := chg_under (HC.step hBu) (by rw [hw9]; exact hBA7)
  have hC8 : Chg [D] w9 (w7.setCell ⟨D, j, none⟩ v') := hC7.set (by simp)
  have hne : ∀ b ∈ F ++ G, b ≠ D := fun b hb e => by have := hFG b hb; omega
  refine ⟨?_, Own.set (j := j) hRm hown v' (fun h => by have := (hown.row _ h).1; omega) (fun h => hne _ h rfl), ?_, hFG, hC8, ?_, hC8.size⟩
  · exact (KD.same (kid_old HO hBu hgr (Nat.lt_succ_self D) hlt)).set_ j v'
  · have hfr : Free wA (F ++ G) := free_app (HF.kept (.of_below hBu HO.under)) hfrA (fun b hb hG => by have h1 := HO.under b hb; have h2 := (hfsA b hG).1; omega)
    have hfr7 : Free w7 (F ++ G) := hfr.kept fun b hb => by
      have hbA : b < wA.heap.size := by
        rcases List.mem_append.1 hb with h | h
        · exact Nat.lt_of_lt_of_le (HO.under b h) hA
        · exact (hfsA b h).2
      refine (hgr.block b (by rw [World.size_alloc]; omega) (fun e => ?_)).trans (Below.heap_alloc _ _ _ hbA)
      have hrw := mem_rowOf.2 e.symm
      rcases List.mem_append.1 hb with h | h
      · exact HO.apart b hrw h
      · have h1 := (HO.row b hrw).2
        have h2 := (hfsA b h).1
        omega
    exact hfr7.kept fun b hb => Below.heap_setCell w7 ⟨D, j, none⟩ v' b (hne b hb)
  · have h8 : Below H w w7 := (hB.trans (hBu.mono (Nat.le_trans hw hB.size))).trans (hBA7.mono (by omega))
    exact h8.setCell hHD _
/-- the finished row of kids -/
theorem kid_done (HO : Own wr D E k R xs v F) (HF : Free wr F) (HFh : ∀ b ∈ F, D ≤ b) (hHD : H ≤ D) : ∃ FF, Arr wr (R wr) xs v FF ∧ Free wr FF ∧ ∀ b ∈ FF, H ≤ b ∧ b < wr.heap.size :=
  ⟨_, HO.arr, HO.free HF, fun b hb => by
    split at hb
    · cases hb
    · rcases List.mem_append.1 hb with h | h
      · have := HO.row b h; omega
      · have := HFh b h; have := HO.under b h; omega⟩
end
end Go.Proofs.Ytilndhmegaccmaa
