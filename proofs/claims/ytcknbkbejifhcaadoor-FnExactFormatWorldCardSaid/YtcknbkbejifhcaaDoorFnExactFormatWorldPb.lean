/-
  Lemmas and contracts of functions: WorldValid of the program, with its two maps. Conditions: none. TypeValid of the reference and of the program. Conditions: none. Regions that draw their order: a load may be taken first whose cell is written in the region, if what writes it waits for the load (operation d, which comes after the load). Conditions: none. Texts of types: strconv.Itoa at one digit, typeText, FormatType of both. Conditions: none. The law of append on slices of the call's own, at a step of a region that draws its order. Conditions: none. listed, worldText, FormatWorld of the program. Conditions: none. l1Text of the reference: the text of a world. Conditions: the world is valid. FormatWorld of the reference. Conditions: none. What comes in as an argument (slices of structs, trees) lies in memory as the plain data say. Conditions: none. A Type that comes in as an argument lies in memory as the plain data say. Conditions: none. A Ctor that comes in as an argument lies in memory as the plain data say. Conditions: none. A Data that comes in as an argument lies in memory as the plain data say. Conditions: none.
-/
import Derived.Test.YtcknbkbejifhcaaDoorFnExactFormatWorldPa
import Derived.Maps.Own
import Derived.Maps.OwnOps
import Derived.StringKeys
import Derived.Deep.RegionWith
import Derived.Deep.RegionHeld3
import Derived.IntWalk
import Derived.ProofKit
import Derived.ChangeArms
import Derived.Deep.Fields
import Derived.Test.YtcknbkbejifhcaaDoorChecked

set_option linter.unusedVariables false
set_option linter.unusedSimpArgs false

namespace Go.Proofs.YtcknbkbejifhcaaDoor
open Go.RowKit

open Go.Maps
def strLit (s : ByteArray) : Lit := .string s.data.toList
theorem strLit_same (a b : ByteArray) : (strLit a).sameKey (strLit b) = (a.toList == b.toList) := by
  rw [ByteArray.toList_eq, ByteArray.toList_eq]; rfl
theorem any_same (names : List ByteArray) (s : ByteArray) : ((names.map strLit).any fun x => x.sameKey (strLit s)) = nameIn names s := by
  induction names with
  | nil => rfl
  | cons x xs ih => rw [List.map_cons, List.any_cons, ih, strLit_same]; rfl
theorem isKey_str (s : ByteArray) : WideAt.IsKeyLit (strLit s) := trivial
theorem atKey_setOf {H : Type} (u z : DataW H) (k : Lit) (acc : List Lit) (ha : ∀ x ∈ acc, WideAt.IsKeyLit x) (hk : WideAt.IsKeyLit k) : (setOf u acc).atKey k z = if acc.any (fun x => x.sameKey k) then u else z := by
  cases h : acc.any (fun x => x.sameKey k) with
  | false =>
    rw [if_neg (by simp)]
    exact atKey_of_not_has ((has_setOf u k acc ha).trans h) z
  | true =>
    rw [if_pos rfl]
    revert h
    have key : ∀ n (acc : List Lit), acc.length = n → (∀ x ∈ acc, WideAt.IsKeyLit x) → acc.any (fun x => x.sameKey k) = true → (setOf u acc).atKey k z = u := by
      intro n
      induction n with
      | zero => intro acc hl _ h; rw [List.length_eq_zero_iff.1 hl] at h; simp at h
      | succ n ih =>
        intro acc hl ha h
        obtain ⟨l, x, rfl⟩ : ∃ l x, acc = l ++ [x] := ⟨acc.dropLast, acc.getLast (by intro e; rw [e] at hl; simp at hl), (List.dropLast_concat_getLast _).symm⟩
        rw [setOf_snoc]
        have hl' : ∀ y ∈ l, WideAt.IsKeyLit y := fun y hy => ha y (List.mem_append.2 (.inl hy))
        by_cases e : k = x
        · subst e
          exact atKey_put_same (tidy_setOf u l hl').isMap hk u z
        · rw [atKey_put_other e]
          refine ih l (by simpa using hl) hl' ?_
          rw [List.any_append, Bool.or_eq_true] at h
          rcases h with h | h
          · exact h
          · simp only [List.any_cons, List.any_nil, Bool.or_false] at h
            exact absurd ((WideAt.sameKey_iff hk).1 h).symm e
    exact key _ acc rfl ha

theorem lawS : Maps.Keyed Tryd.prog 9 := string_keyed Tryd.underlying9
theorem zeroB (w : World) : (zeroValue 4).run Tryd.prog w = .ok (.bool false) w := by kernel_rfl

/-- block b is a map[string]bool of the call's own whose keys are these names -/
def OwnsNames (w : World) (b : Nat) (names : List ByteArray) : Prop := w.ownsMap (H := Unit) Tryd.prog 9 (Go.plainElem Tryd.prog 4) b names.length (setOf (.lit (.bool true)) (names.map strLit))
theorem OwnsNames.made (w : World) : OwnsNames (w.alloc (.map #[] 0)) w.heap.size [] := World.ownsMap_made w _ _ _
theorem OwnsNames.kept {w w' : World} {b : Nat} {names : List ByteArray} {row : Option Nat} (h : OwnsNames w b names) (hg : w.grownBy w' row) (hne : some b ≠ row) : OwnsNames w' b names := World.ownsMap.kept h hg hne
theorem OwnsNames.below {w w' : World} {b : Nat} {names : List ByteArray} (h : OwnsNames w b names) (hb : Below w.heap.size w w') : OwnsNames w' b names :=
  h.kept (row := none) ⟨hb.os, hb.tape, hb.output, hb.size, fun k hk _ => hb.block k hk⟩ (by simp)
theorem OwnsNames.alloc {w : World} {b : Nat} {names : List ByteArray} (h : OwnsNames w b names) (o : Obj) : OwnsNames (w.alloc o) b names := World.ownsMap.alloc h o
theorem OwnsNames.lt {w : World} {b : Nat} {names : List ByteArray} (h : OwnsNames w b names) : b < w.heap.size := World.ownsMap.lt h
theorem keyS (s : ByteArray) (hs : s.size ≤ maxLen) : Go.keyOf Tryd.prog 9 (.string s) = some (strLit s) := Go.WideMaps.keyOf_string_mk Tryd.underlying9 hs
theorem OwnsNames.look {w : World} {b : Nat} {names : List ByteArray} (h : OwnsNames w b names) (s : ByteArray) (hs : s.size ≤ maxLen) : (Instr.lookup 54 (.map (some b)) (.string s) false).run Tryd.prog w = .ok (.bool (nameIn names s)) w := by
  obtain ⟨c, hr, hc⟩ := lookup_bool h lawS Tryd.underlying54 Tryd.underlying4 (zeroB w) (keyS s hs)
  rw [hr, atKey_setOf _ _ _ _ (fun x hx => by obtain ⟨y, -, rfl⟩ := List.mem_map.1 hx; exact isKey_str y) (isKey_str s), any_same] at *
  cases hn : nameIn names s <;> rw [hn] at hc
  · rw [if_neg (by simp)] at hc; cases hc; rfl
  · rw [if_pos rfl] at hc; cases hc; rfl
theorem OwnsNames.put {w : World} {b : Nat} {names : List ByteArray} (h : OwnsNames w b names) (s : ByteArray) (w' : World) (h' : w'.ownsMap (H := Unit) Tryd.prog 9 (Go.plainElem Tryd.prog 4) b (names.length + 1) ((setOf (.lit (.bool true)) (names.map strLit)).put (strLit s) (.lit (.bool true)))) : OwnsNames w' b (names ++ [s]) := by
  unfold OwnsNames
  rw [List.map_append, List.map_cons, List.map_nil, setOf_snoc, List.length_append]
  exact h'
theorem OwnsNames.add {w : World} {b : Nat} {names : List ByteArray} (h : OwnsNames w b names) (hn : names.length < 1000000) (s : ByteArray) (hs : s.size ≤ maxLen) :
    ∃ w', (Instr.mapUpdate 54 (.map (some b)) (.string s) (.bool true)).run Tryd.prog w = .ok () w' ∧ OwnsNames w' b (names ++ [s]) ∧ w.grownBy w' (some b) := by
  obtain ⟨w', hr, h1, h2⟩ := World.ownsMap.update h lawS Tryd.underlying54 (by unfold maxLen; omega) (keyS s hs) (plainElem_bool Tryd.underlying4 true)
  exact ⟨w', hr, h.put s w' h1, h2⟩
theorem ctorNames_len (xs : List Dt) (h : ∀ x ∈ xs, x.ctors.length ≤ 4) : (ctorNames xs).length ≤ 4 * xs.length := by
  induction xs with
  | nil => simp [ctorNames]
  | cons x xs ih =>
    have h1 := h x (by simp)
    have h2 := ih fun y hy => h y (by simp [hy])
    simp only [ctorNames, List.flatMap_cons, List.length_append, List.length_map, List.length_cons] at h2 ⊢
    omega
theorem dname_one {s : ByteArray} (h : s.size = 1) (p : 0 < s.size) : dnameOk s.data.toList = (bigB (s[0]'p) && !(s.toList == [73])) := by
  rw [ByteArray.toList_eq, one_byte s h]
  show (bigB (s[0]'p) && !(s[0] == 73)) = _
  congr 2
  simp
theorem dname_not {s : ByteArray} (h : s.size ≠ 1) : dnameOk s.data.toList = false := by
  have hl : s.data.toList.length ≠ 1 := by simpa using h
  generalize s.data.toList = l at *
  match l, hl with
  | [], _ => rfl
  | [c], hl => simp at hl
  | _ :: _ :: _, _ => rfl

set_option maxRecDepth 100000 in
set_option maxHeartbeats 1600000 in
theorem impl_WorldValid (xs : List Dt) (w : World) (v : Value) (F : List Nat) (hx : Arr w (DtR w) xs v F) (hf : Under w.heap.size F) :
    Calls Tryd.prog 10 #[v] w fun e w' => e = .returned (.bool (worldOk xs)) ∧ Below w.heap.size w w' := by
  obtain ⟨A, cap, rfl, hc1, hc2⟩ := hx.form
  have hn : xs.length ≤ 9223372036854775807 := by omega
  have HX := Lib.hid hx
  have HF := Lib.hid hf
  have HN := Lib.hid hn
  clear hx hf hn
  by_cases h4 : xs.length ≤ 4
  · have H0 := Lib.hid (WInv.zero h4)
    have hmm := @run_makeMap Tryd.prog
    go_enter Tryd.func10, Tryd.ntmps10
    go_wp2
    clear hmm
    have HM0 : Hid (OwnsNames ((w.alloc (.map #[] 0)).alloc (.map #[] 0)) w.heap.size (ctorNames (xs.take 0))) := (OwnsNames.made w).alloc _
    have HD0 : Hid (OwnsNames ((w.alloc (.map #[] 0)).alloc (.map #[] 0)) (w.heap.size + 1) ((xs.take 0).map Dt.name)) := by
      have := OwnsNames.made (w.alloc (.map #[] 0))
      rwa [World.size_alloc] at this
    go_loopw [16] (fun iv wr => ∃ d : Nat, d ≤ xs.length ∧ iv = .int .i64 d ∧ Hid (WInv xs d) ∧ Below w.heap.size w wr ∧ Hid (OwnsNames wr (w.heap.size + 1) ((xs.take d).map Dt.name)) ∧ Hid (OwnsNames wr w.heap.size (ctorNames (xs.take d))) ∧ Hid (∀ x ∈ xs.take d, x.ctors.length ≤ 4) ∧ w.heap.size + 1 < wr.heap.size) (fun iv _ => xs.length - (intOf iv).toNat)
    case atStart => exact ⟨0, Nat.zero_le _, rfl, H0, ((Below.refl _ _).alloc (Nat.le_refl _) _).alloc (by simp) _, HD0, HM0, fun x hx => by simp at hx, by simp⟩
    case round =>
      obtain ⟨d, hd, rfl, HW, hB, HD, HM, H4, hz⟩ := hrel
      by_cases hlt : d < xs.length
      · obtain ⟨b, off, rfl⟩ := HX.out.ptr (by omega)
        obtain ⟨A1, cap1, G1, hb, c0, c1, HK, HG, hs, hn1, hn2⟩ := ArrDt.at HX.out HF.out hB d hlt
        have g1 : (0 : Int) ≤ (d : Int) := by omega
        have g2 : (d : Int) < (xs.length : Int) := by omega
        have hsm : xs[d].name.size ≤ maxLen := by unfold maxLen; exact hs
        have HS := Lib.hid hsm
        clear hs hsm
        have hlk := (HD.out.alloc (.cells #[.string xs[d].name, .slice A1 xs[d].ctors.length cap1] 30)).look xs[d].name HS.out
        by_cases h1 : xs[d].name.size = 1
        · have t1 : ((xs[d].name.size : Int) != 1) = false := by simp [h1]
          have p0 : 0 < xs[d].name.size := by omega
          have hdn := dname_one h1 p0
          clear h1
          cases hlo : decide ((65 : Int) ≤ (xs[d].name[0].toNat : Int)) with
          | false =>
            have t2 : decide ((xs[d].name[0].toNat : Int) < 65) = true := by simp at hlo ⊢; omega
            have hf := Lib.hid (HW.out.bad1 hlt (by rw [hdn]; unfold bigB; rw [hlo]; rfl))
            clear hdn hlo hlk
            go_wp2
            go_ret
            exact ⟨ret_bool hf.out.symm, hB.alloc hB.size _⟩
          | true =>
            have t2 : decide ((xs[d].name[0].toNat : Int) < 65) = false := by simp at hlo ⊢; omega
            cases hhi : decide ((xs[d].name[0].toNat : Int) ≤ 90) with
            | false =>
              have t3 : decide ((xs[d].name[0].toNat : Int) > 90) = true := by simp at hhi ⊢; omega
              have hf := Lib.hid (HW.out.bad1 hlt (by rw [hdn]; unfold bigB; rw [hlo, hhi]; rfl))
              clear hdn hlo hhi hlk
              go_wp2
              go_ret
              exact ⟨ret_bool hf.out.symm, hB.alloc hB.size _⟩
            | true =>
              have t3 : decide ((xs[d].name[0].toNat : Int) > 90) = false := by simp at hhi ⊢; omega
              have hbig : bigB xs[d].name[0] = true := by unfold bigB; rw [hlo, hhi]; rfl
              clear hlo hhi
              rw [hbig, Bool.true_and] at hdn
              clear hbig
              cases t4 : (xs[d].name.toList == [73]) with
              | true =>
                have hf := Lib.hid (HW.out.bad1 hlt (by rw [hdn, t4]; rfl))
                clear hdn hlk
                go_wp2
                go_ret
                exact ⟨ret_bool hf.out.symm, hB.alloc hB.size _⟩
              | false =>
                rw [t4] at hdn
                have HDN := Lib.hid hdn
                clear hdn
                cases e3 : nameIn ((xs.take d).map Dt.name) xs[d].name with
                | true =>
                  have hf := Lib.hid (HW.out.bad3 hlt e3)
                  rw [e3] at hlk
                  clear e3
                  go_wp2
                  go_ret
                  exact ⟨ret_bool hf.out.symm, hB.alloc hB.size _⟩
                | false =>
                  rw [e3] at hlk
                  have HE3 := Lib.hid e3
                  clear e3
                  cases e4 : withinB (xs[d].ctors.length : Int) 1 4 with
                  | false =>
                    have hf := Lib.hid (HW.out.bad2 hlt e4)
                    have HE4 := Lib.hid e4
                    clear e4
                    go_wp2_with fail
                    refine (impl_within (xs[d].ctors.length : Int) 1 4 _).mono ?_
                    rintro e w2 ⟨rfl, rfl⟩
                    rw [HE4.out]
                    go_wp2
                    go_ret
                    exact ⟨ret_bool hf.out.symm, hB.alloc hB.size _⟩
                  | true =>
                    have HK0 := Lib.hid (HW.out.goI hlt HDN.out e4 HE3.out)
                    have h5 : xs[d].ctors.length ≤ 4 := by have := (withinB_iff _ _ _).1 e4; omega
                    have H5 := Lib.hid h5
                    have HE4 := Lib.hid e4
                    clear e4 h5
                    obtain ⟨w2, hrun2, hm2, hg2⟩ := (HD.out.alloc (.cells #[.string xs[d].name, .slice A1 xs[d].ctors.length cap1] 30)).add (by rw [List.length_map, List.length_take]; omega) xs[d].name HS.out
                    have k2 := Blk.new wr 30 #[.string xs[d].name, .slice A1 xs[d].ctors.length cap1]
                    have k3 := k2.same (hg2.block _ k2.lt (by have := HD.out.lt; simp; omega))
                    have x1 : w2.cell? ⟨wr.heap.size, 1, none⟩ = some (.slice A1 xs[d].ctors.length cap1) := (k3.cell 1).trans (by simp)
                    have hx1 := k3.lt
                    clear k2 k3
                    have hBa : Below w.heap.size w (wr.alloc (.cells #[.string xs[d].name, .slice A1 xs[d].ctors.length cap1] 30)) := hB.alloc hB.size _
                    have hB3 := hBa.grown hg2 hBa.size (fun _ h => by cases h; omega)
                    have HM3 : Hid (OwnsNames w2 w.heap.size (ctorNames (xs.take d) ++ (xs[d].ctors.take 0).map Kt.name)) := by
                      rw [List.take_zero, List.map_nil, List.append_nil]
                      exact (HM.out.alloc _).kept hg2 (by simp)
                    have HD3 : Hid (OwnsNames w2 (w.heap.size + 1) ((xs.take (d + 1)).map Dt.name)) := by
                      rw [take_snoc' xs d hlt, List.map_append]; exact hm2
                    have hz3 : w.heap.size + 1 < w2.heap.size := by have := hg2.size; simp at this; omega
                    clear hm2 hg2 hBa HD HM hz
                    go_wp2_with fail
                    refine (impl_within (xs[d].ctors.length : Int) 1 4 _).mono ?_
                    rintro e w2' ⟨rfl, rfl⟩
                    rw [HE4.out]
                    go_wp2
                    clear x1 hx1 hrun2 hlk t1 t2 t3 t4 c0 c1
                    obtain ⟨wo, hwo⟩ : ∃ wo : World, wo = w2 := ⟨_, rfl⟩
                    go_loopw [60] (fun jv ws => ∃ k : Nat, k ≤ xs[d].ctors.length ∧ jv = .int .i64 k ∧ Hid (KInvI xs d hlt k) ∧ Below w.heap.size w ws ∧ Hid (OwnsNames ws (w.heap.size + 1) ((xs.take (d + 1)).map Dt.name)) ∧ Hid (OwnsNames ws w.heap.size (ctorNames (xs.take d) ++ (xs[d].ctors.take k).map Kt.name)) ∧ w.heap.size + 1 < ws.heap.size) (fun jv _ => xs[d].ctors.length - (intOf jv).toNat)
                    case atStart => exact ⟨0, Nat.zero_le _, rfl, HK0, hB3, HD3, HM3, hz3⟩
                    case round =>
                      clear hwo hz3 hB3 hB
                      obtain ⟨k, hk, rfl, HKI, hB, HD, HM, hz⟩ := hrel
                      by_cases hkl : k < xs[d].ctors.length
                      · obtain ⟨b2, off2, rfl⟩ := HK.out.ptr (by omega)
                        obtain ⟨A3, cap3, G3, hb3, k0, k1, k2, HC, HG3, hs3, -, -⟩ := ArrKt.rep HK.out HG.out hB k hkl
                        have g3 : (0 : Int) ≤ (k : Int) := by omega
                        have g4 : (k : Int) < (xs[d].ctors.length : Int) := by omega
                        have HS3 := Lib.hid hs3
                        clear hs3
                        go_wp2_with fail
                        obtain ⟨W4, hW4⟩ : ∃ W4, W4 = wr.alloc (.cells #[.string xs[d].ctors[k].name, .slice A3 xs[d].ctors[k].args.length cap3, .int .i64 xs[d].ctors[k].idx] 27) := ⟨_, rfl⟩
                        have hb4 : Below wr.heap.size wr W4 := by rw [hW4]; exact (Below.refl _ _).alloc (Nat.le_refl _) _
                        have k4 : Blk W4 wr.heap.size 27 #[.string xs[d].ctors[k].name, .slice A3 xs[d].ctors[k].args.length cap3, .int .i64 xs[d].ctors[k].idx] := by rw [hW4]; exact Blk.new _ _ _
                        rw [← hW4]
                        clear hW4
                        have hB4 := hB.trans (hb4.mono hB.size)
                        refine (impl_ctorOk _ xs.length cap xs[d].ctors[k] W4 _ _ HN.out (HC.out.below hB4 HG3.out) (HG3.out.mono hB4.size)).mono ?_
                        rintro e w5 ⟨rfl, hb5⟩
                        have hB5 := hB4.trans (hb5.mono hB4.size)
                        have k5 := k4.same (hb5.block _ k4.lt)
                        have x0 : w5.cell? ⟨wr.heap.size, 0, none⟩ = some (.string xs[d].ctors[k].name) := (k5.cell 0).trans (by simp)
                        have hx0 := k5.lt
                        clear k4 k5 k0 k1 k2
                        have HD5 := Lib.hid ((HD.out.below hb4).below hb5)
                        have HM5 := Lib.hid ((HM.out.below hb4).below hb5)
                        have hlk := HM5.out.look xs[d].ctors[k].name (by unfold maxLen; exact HS3.out)
                        cases e2 : ctorOkB xs.length xs[d].ctors[k] with
                        | false =>
                          have hf := Lib.hid (HKI.out.bad1 hkl e2)
                          clear e2 hlk
                          go_wp2
                          go_ret
                          exact ⟨ret_bool hf.out.symm, hB5⟩
                        | true =>
                          cases e3 : nameIn (ctorNames (xs.take d) ++ (xs[d].ctors.take k).map Kt.name) xs[d].ctors[k].name with
                          | true =>
                            have hf := Lib.hid (HKI.out.bad2 hkl e3)
                            rw [e3] at hlk
                            clear e2 e3
                            go_wp2
                            go_ret
                            exact ⟨ret_bool hf.out.symm, hB5⟩
                          | false =>
                            have HK3 := Lib.hid (HKI.out.next hkl e2 e3)
                            rw [e3] at hlk
                            clear e2 e3
                            obtain ⟨w6, hrun6, hm6, hg6⟩ := HM5.out.add (by
                              have h1 := ctorNames_len (xs.take d) (fun x hx => H4.out x hx)
                              have h2 : (xs.take d).length ≤ 4 := by rw [List.length_take]; omega
                              have h3 := H5.out
                              simp only [List.length_append, List.length_map, List.length_take]
                              omega) xs[d].ctors[k].name (by unfold maxLen; exact HS3.out)
                            have hB6 := hB5.grown hg6 hB5.size (fun _ h => by cases h; exact Nat.le_refl _)
                            have HD6 := Lib.hid (HD5.out.kept hg6 (by simp))
                            have HM6 : Hid (OwnsNames w6 w.heap.size (ctorNames (xs.take d) ++ (xs[d].ctors.take (k + 1)).map Kt.name)) := by
                              rw [take_snoc' _ k hkl, List.map_append, ← List.append_assoc]; exact hm6
                            have hz6 : w.heap.size + 1 < w6.heap.size := Nat.lt_of_lt_of_le hz (Nat.le_trans hb4.size (Nat.le_trans hb5.size hg6.size))
                            clear hm6 hg6 hb5 hb4 HD5 HM5 hB4 hB5 hB
                            go_wp2
                            go_roundw
                            case rel => exact ⟨k + 1, by omega, by go_num, HK3, hB6, HD6, HM6, hz6⟩
                            case measure => (simp [intOf] <;> omega)
                      · have HW2 := Lib.hid (HKI.out.done (by omega))
                        have HM6 : Hid (OwnsNames wr w.heap.size (ctorNames (xs.take (d + 1)))) := by
                          have h := HM.out
                          rw [List.take_of_length_le (show xs[d].ctors.length ≤ k by omega), ← ctorNames_snoc, ← take_snoc' xs d hlt] at h
                          exact h
                        have H6 : Hid (∀ x ∈ xs.take (d + 1), x.ctors.length ≤ 4) := fun x hx => by
                          rw [take_snoc' xs d hlt] at hx
                          rcases List.mem_append.1 hx with h | h
                          · exact H4.out x h
                          · rw [List.mem_singleton.1 h]; exact H5.out
                        go_wp2
                        go_roundw
                        case rel => exact ⟨d + 1, by omega, by go_num, HW2, hB, HD, HM6, H6, hz⟩
                        case measure => (simp [intOf] <;> omega)
        · have t1 : ((xs[d].name.size : Int) != 1) = true := by simp; omega
          have hf := Lib.hid (HW.out.bad1 hlt (dname_not h1))
          clear h1 hlk
          go_wp2
          go_ret
          exact ⟨ret_bool hf.out.symm, hB.alloc hB.size _⟩
      · have hf := Lib.hid (HW.out.done (by omega))
        go_wp2
        go_ret
        exact ⟨ret_bool hf.out.symm, hB⟩
  · have hf := Lib.hid (worldOk_long h4)
    go_enter Tryd.func10, Tryd.ntmps10
    go_wp2
    go_ret
    exact ⟨ret_bool hf.out.symm, Below.refl _ _⟩
end Go.Proofs.YtcknbkbejifhcaaDoor

namespace Go.Proofs.YtcknbkbejifhcaaDoor
open Go.RowKit

set_option maxRecDepth 100000 in
set_option maxHeartbeats 1600000 in
theorem impl_typeOk (A : Option Addr) (n cap : Nat) (t : Ty) (w : World) (hn : n ≤ 9223372036854775807) : Calls Tryd.prog 60 #[.slice A n cap, .agg #[.int .i64 t.d, .int .i64 t.i]] w fun e w' => e = .returned (.bool (typeOkB n t)) ∧ Below w.heap.size w w' := by
  cases h0 : (t.d == -1) with
  | true =>
    cases h1 : (t.i == 0) with
    | true =>
      have hf : Hid (typeOkB n t = true) := by unfold Hid typeOkB; rw [if_pos (by simpa using h0), h1]
      go_enter Tryd.func60, Tryd.ntmps60
      go_wp2
      go_ret
      exact ⟨ret_bool hf.out.symm, (Below.refl _ _).alloc (Nat.le_refl _) _⟩
    | false =>
      have hf : Hid (typeOkB n t = false) := by unfold Hid typeOkB; rw [if_pos (by simpa using h0), h1]
      have hw : Hid (withinB t.d 0 ((n : Int) - 1) = false) := by
        have : t.d = -1 := by simpa using h0
        exact withinB_lo (by rw [this]; rfl)
      go_enter Tryd.func60, Tryd.ntmps60
      go_wp2_with fail
      refine (impl_within t.d 0 ((n : Int) - 1) _).mono ?_
      rintro e w' ⟨rfl, rfl⟩
      rw [hw.out]
      go_wp2
      go_ret
      exact ⟨ret_bool hf.out.symm, (Below.refl _ _).alloc (Nat.le_refl _) _⟩
  | false =>
    have hf0 : typeOkB n t = (withinB t.d 0 ((n : Int) - 1) && withinB t.i 0 3) := by unfold typeOkB; rw [if_neg (by simpa using h0)]
    cases hw : withinB t.d 0 ((n : Int) - 1) with
    | false =>
      have hf : Hid (typeOkB n t = false) := by rw [hf0, hw]; rfl
      have HW := Lib.hid hw
      clear hf0 hw
      go_enter Tryd.func60, Tryd.ntmps60
      go_wp2_with fail
      refine (impl_within t.d 0 ((n : Int) - 1) _).mono ?_
      rintro e w' ⟨rfl, rfl⟩
      rw [HW.out]
      go_wp2
      go_ret
      exact ⟨ret_bool hf.out.symm, (Below.refl _ _).alloc (Nat.le_refl _) _⟩
    | true =>
      have hf : Hid (typeOkB n t = withinB t.i 0 3) := by rw [hf0, hw]; rfl
      have HW := Lib.hid hw
      clear hf0 hw
      go_enter Tryd.func60, Tryd.ntmps60
      go_wp2_with fail
      refine (impl_within t.d 0 ((n : Int) - 1) _).mono ?_
      rintro e w' ⟨rfl, rfl⟩
      rw [HW.out]
      go_wp2_with fail
      refine (impl_within t.i 0 3 _).mono ?_
      rintro e w' ⟨rfl, rfl⟩
      generalize hbb : withinB t.i 0 3 = bb
      have HBB := Lib.hid hbb
      clear hbb
      go_wp2
      go_ret
      exact ⟨ret_bool (hf.out.trans HBB.out).symm, (Below.refl _ _).alloc (Nat.le_refl _) _⟩

set_option maxRecDepth 100000 in
set_option maxHeartbeats 1600000 in
theorem spec_l1Is (A : Option Addr) (n cap : Nat) (t : Ty) (w : World) : Calls Tryd.prog 57 #[.slice A n cap, .agg #[.int .i64 t.d, .int .i64 t.i]] w fun e w' => e = .returned (.bool (typeOkB n t)) ∧ Below w.heap.size w w' := by
  have h0 := typeOkB_arg n t
  go_enter Tryd.func57, Tryd.ntmps57
  go_wp2_with fail
  obtain ⟨W2, hW2⟩ : ∃ W2, W2 = w.alloc (.cells #[.int .i64 t.d, .int .i64 t.i] 44) := ⟨_, rfl⟩
  have hB2 : Below w.heap.size w W2 := by rw [hW2]; exact (Below.refl _ _).alloc (Nat.le_refl _) _
  have k1 : Blk W2 w.heap.size 44 #[.int .i64 t.d, .int .i64 t.i] := by rw [hW2]; exact Blk.new _ _ _
  rw [← hW2]
  clear hW2
  refine (spec_l1Arg n t W2).mono ?_
  rintro e w' ⟨rfl, hB'⟩
  have hB3 := hB2.trans (hB'.mono hB2.size)
  have k2 := k1.same (hB'.block _ k1.lt)
  have x1 : w'.cell? ⟨w.heap.size, 1, none⟩ = some (.int .i64 t.i) := (k2.cell 1).trans (by simp)
  have hlt := k2.lt
  clear k1 k2
  cases h1 : argOkB n t with
  | false =>
    rw [h1] at h0
    have hf := Lib.hid h0
    clear h0 h1
    go_wp2
    go_ret
    exact ⟨ret_bool hf.out, hB3⟩
  | true =>
    rw [h1, Bool.true_and] at h0
    have hf := Lib.hid h0
    clear h0 h1
    go_wp2
    go_ret
    exact ⟨ret_bool hf.out, hB3⟩

set_option maxRecDepth 100000 in
set_option maxHeartbeats 1600000 in
theorem spec_TypeValid (xs : List Dt) (t : Ty) (w : World) (v : Value) (F : List Nat) (hx : Arr w (DtR w) xs v F) (hf : Under w.heap.size F) :
    Calls Tryd.prog 38 #[v, .agg #[.int .i64 t.d, .int .i64 t.i]] w fun e w' => e = .returned (.bool (typeValidB xs t)) ∧ Below w.heap.size w w' := by
  obtain ⟨A, cap, rfl, hc1, hc2⟩ := hx.form
  have hn : xs.length ≤ 9223372036854775807 := by omega
  have HX := Lib.hid hx
  have HF := Lib.hid hf
  have HN := Lib.hid hn
  clear hx hf hn
  go_enter Tryd.func38, Tryd.ntmps38
  go_wp2_with fail
  obtain ⟨W2, hW2⟩ : ∃ W2, W2 = w.alloc (.cells #[.int .i64 t.d, .int .i64 t.i] 44) := ⟨_, rfl⟩
  have hB2 : Below w.heap.size w W2 := by rw [hW2]; exact (Below.refl _ _).alloc (Nat.le_refl _) _
  have k1 : Blk W2 w.heap.size 44 #[.int .i64 t.d, .int .i64 t.i] := by rw [hW2]; exact Blk.new _ _ _
  rw [← hW2]
  clear hW2
  refine (spec_WorldValid xs W2 _ F (ArrDt.below HX.out hB2 HF.out) (HF.out.mono hB2.size)).mono ?_
  rintro e w' ⟨rfl, hB'⟩
  have hB3 := hB2.trans (hB'.mono hB2.size)
  have k2 := k1.same (hB'.block _ k1.lt)
  have x0 : w'.cell? ⟨w.heap.size, 0, none⟩ = some (.int .i64 t.d) := (k2.cell 0).trans (by simp)
  have x1 : w'.cell? ⟨w.heap.size, 1, none⟩ = some (.int .i64 t.i) := (k2.cell 1).trans (by simp)
  have hlt := k2.lt
  clear k1 k2
  cases h1 : worldOk xs with
  | false =>
    have hf : Hid (typeValidB xs t = false) := by unfold Hid typeValidB; rw [h1]; rfl
    clear h1
    go_wp2
    go_ret
    exact ⟨ret_bool hf.out.symm, hB3⟩
  | true =>
    have hf : Hid (typeValidB xs t = typeOkB xs.length t) := by unfold Hid typeValidB; rw [h1]; rfl
    clear h1
    go_wp2_with fail
    refine (spec_l1Is _ xs.length cap t w').mono ?_
    rintro e w2 ⟨rfl, hB''⟩
    have hB4 := hB3.trans (hB''.mono hB3.size)
    generalize hbb : typeOkB (xs.length : Int) t = bb
    have HBB := Lib.hid hbb
    clear hbb
    go_wp2
    go_ret
    exact ⟨ret_bool (hf.out.trans HBB.out).symm, hB4⟩

set_option maxRecDepth 100000 in
set_option maxHeartbeats 1600000 in
theorem impl_TypeValid (xs : List Dt) (t : Ty) (w : World) (v : Value) (F : List Nat) (hx : Arr w (DtR w) xs v F) (hf : Under w.heap.size F) :
    Calls Tryd.prog 41 #[v, .agg #[.int .i64 t.d, .int .i64 t.i]] w fun e w' => e = .returned (.bool (typeValidB xs t)) ∧ Below w.heap.size w w' := by
  obtain ⟨A, cap, rfl, hc1, hc2⟩ := hx.form
  have hn : xs.length ≤ 9223372036854775807 := by omega
  have HX := Lib.hid hx
  have HF := Lib.hid hf
  have HN := Lib.hid hn
  clear hx hf hn
  go_enter Tryd.func41, Tryd.ntmps41
  go_wp2_with fail
  obtain ⟨W2, hW2⟩ : ∃ W2, W2 = w.alloc (.cells #[.int .i64 t.d, .int .i64 t.i] 44) := ⟨_, rfl⟩
  have hB2 : Below w.heap.size w W2 := by rw [hW2]; exact (Below.refl _ _).alloc (Nat.le_refl _) _
  have k1 : Blk W2 w.heap.size 44 #[.int .i64 t.d, .int .i64 t.i] := by rw [hW2]; exact Blk.new _ _ _
  rw [← hW2]
  clear hW2
  refine (impl_WorldValid xs W2 _ F (ArrDt.below HX.out hB2 HF.out) (HF.out.mono hB2.size)).mono ?_
  rintro e w' ⟨rfl, hB'⟩
  have hB3 := hB2.trans (hB'.mono hB2.size)
  have k2 := k1.same (hB'.block _ k1.lt)
  have x0 : w'.cell? ⟨w.heap.size, 0, none⟩ = some (.int .i64 t.d) := (k2.cell 0).trans (by simp)
  have x1 : w'.cell? ⟨w.heap.size, 1, none⟩ = some (.int .i64 t.i) := (k2.cell 1).trans (by simp)
  have hlt := k2.lt
  clear k1 k2
  cases h1 : worldOk xs with
  | false =>
    have hf : Hid (typeValidB xs t = false) := by unfold Hid typeValidB; rw [h1]; rfl
    clear h1
    go_wp2
    go_ret
    exact ⟨ret_bool hf.out.symm, hB3⟩
  | true =>
    have hf : Hid (typeValidB xs t = typeOkB xs.length t) := by unfold Hid typeValidB; rw [h1]; rfl
    clear h1
    go_wp2_with fail
    refine (impl_typeOk _ xs.length cap t w' HN.out).mono ?_
    rintro e w2 ⟨rfl, hB''⟩
    have hB4 := hB3.trans (hB''.mono hB3.size)
    generalize hbb : typeOkB (xs.length : Int) t = bb
    have HBB := Lib.hid hbb
    clear hbb
    go_wp2
    go_ret
    exact ⟨ret_bool (hf.out.trans HBB.out).symm, hB4⟩
end Go.Proofs.YtcknbkbejifhcaaDoor

namespace Go.Proofs.YtcknbkbejifhcaaDoor
open Go

section
variable {P : Program} {ops : Array Oper} {Q : Exit → Act → World → Prop} {md : Region.Mode} {S T : World → Prop} {d : Nat}

/-- behind every operation S holds, and T as long as operation d has not come up -/
def wpAnyB (P : Program) (md : Region.Mode) (ops : Array Oper) (Q : Exit → Act → World → Prop) (S T : World → Prop) (d : Nat) : Nat → Array Bool → Act → World → Prop
  | 0, listed, a, w => Region.ready md ops listed = [] ∧ Q .normal a w
  | fuel + 1, listed, a, w =>
    (Region.ready md ops listed = [] → Q .normal a w) ∧
    ∀ i ∈ Region.ready md ops listed, wpOp P ops Q i (fun a' w' => (S w' ∧ ((listed.setIfInBounds i true).getD d false = false → T w')) ∧ wpAnyB P md ops Q S T d fuel (listed.setIfInBounds i true) a' w') a w
theorem wpAny_of_B : ∀ (fuel : Nat) (listed : Array Bool) (a : Act) (w : World), wpAnyB P md ops Q S T d fuel listed a w → wpAny P md ops Q fuel listed a w
  | 0, _, _, _, h => h
  | fuel + 1, _, _, _, h => ⟨h.1, fun i hi => wpOp_mono (fun _ _ h' => wpAny_of_B fuel _ _ _ h'.2) (h.2 i hi)⟩
/-- an operation that yields under S alone -/
theorem wpAnyB_first {i : Nat} {oi : Oper} {v : Value} (hi : ops[i]? = some oi) (hid : i ≠ d) (hsel : ∀ (j : Nat) (o : Oper) cs b, ops[j]? = some o → o.op ≠ .select cs b)
    (hQ : ∀ c a w, Q (.panic c) (a.put oi.dst v) w → Q (.panic c) a w) :
    ∀ (fuel : Nat) (listed : Array Bool) (a : Act) (w : World),
      (∀ j oj, ops[j]? = some oj → j ≠ i → listed.getD j true = false → (∀ e ∈ oj.after, Region.binds md e = true → e.on ≠ i) → oi.apart ops oj = true) →
      i ∈ Region.ready md ops listed → YieldsIf P ops S oi v a → S w → (listed.getD d false = false → T w) →
      wpAnyB P md ops Q S T d fuel (listed.setIfInBounds i true) (a.put oi.dst v) w → wpAnyB P md ops Q S T d (fuel + 1) listed a w := by
  intro fuel
  induction fuel with
  | zero =>
    intro listed a w _ hr hy hS hT H
    refine ⟨fun h => (by rw [h] at hr; cases hr), fun j hj => ?_⟩
    by_cases hji : j = i
    · subst hji; exact hy.wpOp hi hS ⟨⟨hS, fun h => hT (by rwa [getD_set_ne false hid] at h)⟩, H⟩
    · have := ready_mono hj hji
      rw [H.1] at this
      cases this
  | succ fuel ih =>
    intro listed a w hfree hr hy hS hT H
    refine ⟨fun h => (by rw [h] at hr; cases hr), fun j hj => ?_⟩
    by_cases hji : j = i
    · subst hji; exact hy.wpOp hi hS ⟨⟨hS, fun h => hT (by rwa [getD_set_ne false hid] at h)⟩, H⟩
    · have h1 := H.2 j (ready_mono hj hji)
      obtain ⟨hjun, oj, hoj, hall⟩ := mem_ready.1 hj
      have hnot : ∀ e ∈ oj.after, Region.binds md e = true → e.on ≠ i := fun e he hb heq => by
        have h1 := hall e he hb
        have h0 := (mem_ready.1 hr).1
        rw [heq] at h1
        rcases Nat.lt_or_ge i listed.size with h' | h'
        · simp [h'] at h0 h1; rw [h0] at h1; cases h1
        · simp [Array.getElem?_eq_none h'] at h1
      have h2 := wpOp_putIf hoj (hfree j oj hoj hji hjun hnot) (fun cs b => hsel i oi cs b hi) (fun cs b => hsel j oj cs b hoj) hQ hy h1
      have hfree' : ∀ k ok, ops[k]? = some ok → k ≠ i → (listed.setIfInBounds j true).getD k true = false →
          (∀ e ∈ ok.after, Region.binds md e = true → e.on ≠ i) → oi.apart ops ok = true := fun k ok hk hki hun hno => by
        refine hfree k ok hk hki ?_ hno
        by_cases hjk : j = k
        · subst hjk; exact hjun
        · rw [getD_set_ne true hjk] at hun; exact hun
      have hbit : ((listed.setIfInBounds i true).setIfInBounds j true).getD d false = (listed.setIfInBounds j true).getD d false := by
        rw [Array.setIfInBounds_comm _ _ (Ne.symm hji), getD_set_ne false hid]
      refine wpOp_mono (fun a' w' h3 => ⟨⟨h3.2.1.1, fun h => h3.2.1.2 (hbit.trans h)⟩, ih (listed.setIfInBounds j true) a' w' hfree' (ready_mono hr (Ne.symm hji)) h3.1 h3.2.1.1 (fun h => h3.2.1.2 (hbit.trans h)) ?_⟩) h2
      rw [Array.setIfInBounds_comm _ _ hji]
      exact h3.2.2
/-- an operation that yields under S and T, for which operation d waits -/
theorem wpAnyB_firstT {i : Nat} {oi od : Oper} {v : Value} (hi : ops[i]? = some oi) (hid : i ≠ d) (hd : ops[d]? = some od) (hdi : ∃ e ∈ od.after, Region.binds md e = true ∧ e.on = i) (hsel : ∀ (j : Nat) (o : Oper) cs b, ops[j]? = some o → o.op ≠ .select cs b)
    (hQ : ∀ c a w, Q (.panic c) (a.put oi.dst v) w → Q (.panic c) a w) :
    ∀ (fuel : Nat) (listed : Array Bool) (a : Act) (w : World),
      (∀ j oj, ops[j]? = some oj → j ≠ i → listed.getD j true = false → (∀ e ∈ oj.after, Region.binds md e = true → e.on ≠ i) → oi.apart ops oj = true) →
      i ∈ Region.ready md ops listed → YieldsIf P ops (fun w => S w ∧ T w) oi v a → listed.getD d false = false → S w → T w →
      wpAnyB P md ops Q S T d fuel (listed.setIfInBounds i true) (a.put oi.dst v) w → wpAnyB P md ops Q S T d (fuel + 1) listed a w := by
  intro fuel
  induction fuel with
  | zero =>
    intro listed a w _ hr hy hdf hS hT H
    refine ⟨fun h => (by rw [h] at hr; cases hr), fun j hj => ?_⟩
    by_cases hji : j = i
    · subst hji; exact hy.wpOp hi ⟨hS, hT⟩ ⟨⟨hS, fun _ => hT⟩, H⟩
    · have := ready_mono hj hji
      rw [H.1] at this
      cases this
  | succ fuel ih =>
    intro listed a w hfree hr hy hdf hS hT H
    refine ⟨fun h => (by rw [h] at hr; cases hr), fun j hj => ?_⟩
    by_cases hji : j = i
    · subst hji; exact hy.wpOp hi ⟨hS, hT⟩ ⟨⟨hS, fun _ => hT⟩, H⟩
    · have h1 := H.2 j (ready_mono hj hji)
      obtain ⟨hjun, oj, hoj, hall⟩ := mem_ready.1 hj
      have hnot : ∀ e ∈ oj.after, Region.binds md e = true → e.on ≠ i := fun e he hb heq => by
        have h1 := hall e he hb
        have h0 := (mem_ready.1 hr).1
        rw [heq] at h1
        rcases Nat.lt_or_ge i listed.size with h' | h'
        · simp [h'] at h0 h1; rw [h0] at h1; cases h1
        · simp [Array.getElem?_eq_none h'] at h1
      have hjd : j ≠ d := fun e => by
        subst e
        rw [hoj] at hd
        cases hd
        obtain ⟨e, he, hb, ho⟩ := hdi
        exact hnot e he hb ho
      have h2 := wpOp_putIf hoj (hfree j oj hoj hji hjun hnot) (fun cs b => hsel i oi cs b hi) (fun cs b => hsel j oj cs b hoj) hQ hy h1
      have hfree' : ∀ k ok, ops[k]? = some ok → k ≠ i → (listed.setIfInBounds j true).getD k true = false →
          (∀ e ∈ ok.after, Region.binds md e = true → e.on ≠ i) → oi.apart ops ok = true := fun k ok hk hki hun hno => by
        refine hfree k ok hk hki ?_ hno
        by_cases hjk : j = k
        · subst hjk; exact hjun
        · rw [getD_set_ne true hjk] at hun; exact hun
      have hdf2 : (listed.setIfInBounds j true).getD d false = false := by rw [getD_set_ne false hjd]; exact hdf
      have hdf3 : ((listed.setIfInBounds i true).setIfInBounds j true).getD d false = false := by rw [getD_set_ne false hjd, getD_set_ne false hid]; exact hdf
      refine wpOp_mono (fun a' w' h3 => ⟨⟨h3.2.1.1, fun _ => h3.2.1.2 hdf3⟩, ih (listed.setIfInBounds j true) a' w' hfree' (ready_mono hr (Ne.symm hji)) h3.1 hdf2 h3.2.1.1 (h3.2.1.2 hdf3) ?_⟩) h2
      rw [Array.setIfInBounds_comm _ _ hji]
      exact h3.2.2
theorem wpAnyB_take {i : Nat} {oi : Oper} {v : Value} {fuel : Nat} {listed : Array Bool} {a : Act} {w : World} (hi : ops[i]? = some oi) (hid : i ≠ d)
    (hs : Region.noSelect ops = true) (hf : Region.free md ops listed i = true) (hr : (Region.ready md ops listed).contains i = true)
    (hQ : ∀ c a w, Q (.panic c) (a.put oi.dst v) w → Q (.panic c) a w) (hy : YieldsIf P ops S oi v a) (hS : S w) (hT : listed.getD d false = false → T w)
    (h : wpAnyB P md ops Q S T d fuel (listed.setIfInBounds i true) (a.put oi.dst v) w) : wpAnyB P md ops Q S T d (fuel + 1) listed a w :=
  wpAnyB_first hi hid (Region.noSelect_spec hs) hQ fuel listed a w (Region.free_spec hi hf) (by simpa using hr) hy hS hT h
theorem wpAnyB_takeT {i : Nat} {oi od : Oper} {v : Value} {fuel : Nat} {listed : Array Bool} {a : Act} {w : World} (hi : ops[i]? = some oi) (hid : i ≠ d) (hd : ops[d]? = some od) (hdi : ∃ e ∈ od.after, Region.binds md e = true ∧ e.on = i)
    (hs : Region.noSelect ops = true) (hf : Region.free md ops listed i = true) (hr : (Region.ready md ops listed).contains i = true)
    (hQ : ∀ c a w, Q (.panic c) (a.put oi.dst v) w → Q (.panic c) a w) (hy : YieldsIf P ops (fun w => S w ∧ T w) oi v a) (hdf : listed.getD d false = false) (hS : S w) (hT : T w)
    (h : wpAnyB P md ops Q S T d fuel (listed.setIfInBounds i true) (a.put oi.dst v) w) : wpAnyB P md ops Q S T d (fuel + 1) listed a w :=
  wpAnyB_firstT hi hid hd hdi (Region.noSelect_spec hs) hQ fuel listed a w (Region.free_spec hi hf) (by simpa using hr) hy hdf hS hT h
theorem wpAnyB_takeB {i : Nat} {oi od : Oper} {v : Value} {fuel : Nat} {listed : Array Bool} {a : Act} {w : World} (hi : ops[i]? = some oi) (hid : i ≠ d) (hd : ops[d]? = some od) (hdi : (od.after.any fun e => Region.binds md e && e.on == i) = true)
    (hs : Region.noSelect ops = true) (hf : Region.free md ops listed i = true) (hr : (Region.ready md ops listed).contains i = true)
    (hQ : ∀ c a w, Q (.panic c) (a.put oi.dst v) w → Q (.panic c) a w) (hy : YieldsIf P ops (fun w => S w ∧ T w) oi v a) (hdf : listed.getD d false = false) (hS : S w) (hT : T w)
    (h : wpAnyB P md ops Q S T d fuel (listed.setIfInBounds i true) (a.put oi.dst v) w) : wpAnyB P md ops Q S T d (fuel + 1) listed a w :=
  wpAnyB_takeT hi hid hd (by
    obtain ⟨k, hk, hb⟩ := Array.any_eq_true.1 hdi
    rw [Bool.and_eq_true, beq_iff_eq] at hb
    exact ⟨_, Array.getElem_mem hk, hb.1, hb.2⟩) hs hf hr hQ hy hdf hS hT h
theorem wpAnyB_all {rs : List Nat} {fuel : Nat} {listed : Array Bool} {a : Act} {w : World} (hr : Region.ready md ops listed = rs) (hne : rs ≠ [])
    (h : ∀ i ∈ rs, wpOp P ops Q i (fun a' w' => (S w' ∧ ((listed.setIfInBounds i true).getD d false = false → T w')) ∧ wpAnyB P md ops Q S T d fuel (listed.setIfInBounds i true) a' w') a w) : wpAnyB P md ops Q S T d (fuel + 1) listed a w :=
  ⟨fun h0 => absurd (hr ▸ h0) hne, hr ▸ h⟩
theorem wpAnyB_done {listed : Array Bool} {a : Act} {w : World} (hr : Region.ready md ops listed = []) (h : Q .normal a w) : ∀ fuel, wpAnyB P md ops Q S T d fuel listed a w
  | 0 => ⟨hr, h⟩
  | _ + 1 => ⟨fun _ => h, by rw [hr]; simp⟩
theorem wp_region_B {id : Nat} {a : Act} {w : World} (hm : P.follows .mixedOrders = true)
    (h : wpAnyB P .any ops Q S T d ops.size (Array.replicate ops.size false) a w.drew) : (Code.region id ops true).wp P Q a w :=
  wp_region_any hm (wpAny_of_B _ _ _ _ h)
/-- each of the operations rs comes up next; what must then be shown: S, T as long as d has not come up, and the rest -/
def AllReadyB (P : Program) (md : Region.Mode) (ops : Array Oper) (Q : Exit → Act → World → Prop) (S T : World → Prop) (d fuel : Nat) (listed : Array Bool) (a : Act) (w : World) (rs : List Nat) : Prop :=
  ∀ i ∈ rs, wpOp P ops Q i (fun a' w' => (S w' ∧ ((listed.setIfInBounds i true).getD d false = false → T w')) ∧ wpAnyB P md ops Q S T d fuel (listed.setIfInBounds i true) a' w') a w
theorem AllReadyB.nil {fuel : Nat} {listed : Array Bool} {a : Act} {w : World} : AllReadyB P md ops Q S T d fuel listed a w [] := fun _ h => by cases h
theorem AllReadyB.cons {fuel : Nat} {listed : Array Bool} {a : Act} {w : World} {i : Nat} {o : Oper} {rs : List Nat} (ho : ops[i]? = some o)
    (h : ∀ K' : Act → World → Prop, Shut (∀ a w, S w → ((listed.setIfInBounds i true).getD d false = false → T w) → wpAnyB P md ops Q S T d fuel (listed.setIfInBounds i true) a w → K' a w) → if Region.wanted o (yielded ops a.tmps) = true then Oper.wp P o a w K' Q else K' (a.put o.dst undef) w)
    (hs : AllReadyB P md ops Q S T d fuel listed a w rs) : AllReadyB P md ops Q S T d fuel listed a w (i :: rs) := fun j hj => by
  rcases List.mem_cons.1 hj with rfl | hj
  · exact wpOp_step ho (fun K' hK => h K' (fun a w h1 h2 h3 => hK a w ⟨⟨h1, h2⟩, h3⟩))
  · exact hs j hj
theorem wpAnyB_ready {rs : List Nat} {fuel : Nat} {listed : Array Bool} {a : Act} {w : World} (hr : Region.ready md ops listed = rs) (hne : rs ≠ [])
    (h : AllReadyB P md ops Q S T d fuel listed a w rs) : wpAnyB P md ops Q S T d (fuel + 1) listed a w := wpAnyB_all hr hne h
theorem wpAnyB_end {fuel : Nat} {listed : Array Bool} {a : Act} {w : World} (hr : (Region.ready md ops listed).isEmpty = true) (h : Q .normal a w) : wpAnyB P md ops Q S T d fuel listed a w :=
  wpAnyB_done (List.isEmpty_iff.1 hr) h fuel
end
end Go.Proofs.YtcknbkbejifhcaaDoor

namespace Go.Proofs.YtcknbkbejifhcaaDoor
open Go.RowKit

theorem tenDigits (k : Nat) (h : k < 10) : ByteArray.extract ⟨#[48, 49, 50, 51, 52, 53, 54, 55, 56, 57, 97, 98, 99, 100, 101, 102, 103, 104, 105, 106, 107, 108, 109, 110, 111, 112, 113, 114, 115, 116, 117, 118, 119, 120, 121, 122]⟩ k (k + 1) = bs (digT (k : Int)) := by
  have key : ∀ j : Fin 10, ByteArray.extract ⟨#[48, 49, 50, 51, 52, 53, 54, 55, 56, 57, 97, 98, 99, 100, 101, 102, 103, 104, 105, 106, 107, 108, 109, 110, 111, 112, 113, 114, 115, 116, 117, 118, 119, 120, 121, 122]⟩ j.1 (j.1 + 1) = bs (digT (j.1 : Int)) := by decide
  exact key ⟨k, h⟩
set_option maxRecDepth 100000 in
set_option maxHeartbeats 1600000 in
theorem strconv_Itoa (k : Nat) (h : k < 10) (w : World) : Calls Tryd.prog 50 #[.int .i64 (k : Int)] w fun e w' => e = .returned (.string (bs (digT (k : Int)))) ∧ Below w.heap.size w w' := by
  have t1 : decide (0 ≤ (k : Int)) = true := decide_eq_true (by omega)
  have t2 : decide ((k : Int) < 100) = true := decide_eq_true (by omega)
  have t3 : decide ((k : Int) < 10) = true := decide_eq_true (by omega)
  have t2' : decide (k < 100) = true := decide_eq_true (by omega)
  have t3' : decide (k < 10) = true := decide_eq_true (by omega)
  have a1 : IntKind.i64.wrap ((k : Int) + 1) = (k : Int) + 1 := IntWalk.i64_in _ (by omega)
  have g1 : (0 : Int) ≤ (k : Int) := by omega
  have g2 : (k : Int) + 1 ≤ 36 := by omega
  have g3 : (k : Int) ≤ (k : Int) + 1 := by omega
  have g4 : k + 1 ≤ 36 := by omega
  have hf := Lib.hid (tenDigits k h)
  clear h
  go_enter Tryd.func50, Tryd.ntmps50
  go_wp2
  go_ret
  exact ⟨by rw [← hf.out]; rfl, Below.refl _ _⟩

theorem bytes_append_empty (a : ByteArray) : a ++ bs [] = a := tl_inj (by rw [tl_append, tl_bs, List.append_nil])
set_option maxRecDepth 100000 in
set_option maxHeartbeats 1600000 in
theorem impl_typeText (xs : List Dt) (hw : WorldOK xs) (t : Ty) (ht : argOkB xs.length t = true) (w : World) (v : Value) (F : List Nat) (hx : Arr w (DtR w) xs v F) (hf : Under w.heap.size F) :
    Calls Tryd.prog 42 #[v, .agg #[.int .i64 t.d, .int .i64 t.i]] w fun e w' => e = .returned (.string (bs (tyT xs t))) ∧ Below w.heap.size w w' := by
  obtain ⟨A, cap, rfl, hc1, hc2⟩ := hx.form
  have hin := argOkB_in ht
  have HW := Lib.hid hw
  have HX := Lib.hid hx
  have HF := Lib.hid hf
  clear hx hf
  clear hw
  by_cases hd : t.d = -1
  · have t0 : (t.d == -1) = true := by simp [hd]
    have hf : Hid (bs (tyT xs t) = ⟨#[73]⟩) := by unfold Hid tyT; rw [if_pos hd]; rfl
    clear ht hin hd
    go_enter Tryd.func42, Tryd.ntmps42
    go_wp2
    go_ret
    exact ⟨ret_str hf.out.symm, (Below.refl _ _).alloc (Nat.le_refl _) _⟩
  · rcases hin with h | ⟨d, hd2, hdl⟩
    · exact absurd h hd
    have hi : -1 ≤ t.i ∧ t.i ≤ 9 := by
      unfold argOkB at ht
      rw [if_neg hd] at ht
      simp [withinB] at ht
      omega
    obtain ⟨t1, i⟩ := t
    simp only at hd2 hi hd
    subst hd2
    have hf0 : bs (tyT xs ⟨(d : Int), i⟩) = xs[d].name ++ bs (idxT i) := by
      unfold tyT
      rw [if_neg hd]
      simp only
      rw [nameAt_get hdl, ← bs_append, bs_tl]
    have HI : Hid (-1 ≤ i ∧ i ≤ 9) := hi
    have t0 : ((d : Int) == -1) = false := by rw [beq_eq_false_iff_ne]; omega
    clear ht hd hi
    obtain ⟨b, off, rfl⟩ := HX.out.ptr (by omega)
    have g1 : (0 : Int) ≤ (d : Int) := by omega
    have g2 : (d : Int) < (xs.length : Int) := by omega
    have hB0 : Below w.heap.size w (w.alloc (.cells #[.int .i64 (d : Int), .int .i64 i] 44)) := (Below.refl _ _).alloc (Nat.le_refl _) _
    obtain ⟨A1, cap1, G1, hb, c0, c1, HK, HG, hs, hn1, hn2⟩ := ArrDt.at HX.out HF.out hB0 d hdl
    have hns : xs[d].name.size = 1 := dname_len (HW.out.at hdl).name
    have y0 : (w.alloc (.cells #[.int .i64 (d : Int), .int .i64 i] 44)).cell? ⟨w.heap.size, 0, none⟩ = some (.int .i64 (d : Int)) := ((Blk.new w 44 #[.int .i64 (d : Int), .int .i64 i]).cell 0).trans (by simp)
    have y1 : (w.alloc (.cells #[.int .i64 (d : Int), .int .i64 i] 44)).cell? ⟨w.heap.size, 1, none⟩ = some (.int .i64 i) := ((Blk.new w 44 #[.int .i64 (d : Int), .int .i64 i]).cell 1).trans (by simp)
    have klt : w.heap.size < (w.alloc (.cells #[.int .i64 (d : Int), .int .i64 i] 44)).heap.size := by simp
    clear c1 HK HG hn1 hn2 hs
    cases q1 : decide (i > 0) with
    | true =>
      obtain ⟨k, rfl⟩ : ∃ k : Nat, i = (k : Int) := ⟨i.toNat, by have : i > 0 := (by simpa using q1); omega⟩
      have hk : k < 10 := by have := HI.out; omega
      have hkp : 0 < k := by have : (k : Int) > 0 := (by simpa using q1); omega
      have q1' : decide (0 < k) = true := decide_eq_true hkp
      have hf : Hid (bs (tyT xs ⟨(d : Int), (k : Int)⟩) = xs[d].name ++ bs (digT (k : Int))) := by
        unfold Hid; rw [hf0]; unfold idxT; rw [if_neg (by omega), if_neg (by omega)]
      have hds : (bs (digT (k : Int))).size = 1 := by rfl
      clear hf0 hkp
      have hcat : xs[d].name.size + (bs (digT (k : Int))).size ≤ 9223372036854775807 := by omega
      have hcat2 : (xs[d].name.size : Int) + ((bs (digT (k : Int))).size : Int) ≤ 9223372036854775807 := by omega
      have hcat3 : ¬ 9223372036854775807 < (xs[d].name.size : Int) + ((bs (digT (k : Int))).size : Int) := by omega
      have hcat4 : ¬ 9223372036854775807 < xs[d].name.size + (bs (digT (k : Int))).size := by omega
      clear hds hns
      generalize hDD : bs (digT (k : Int)) = DD at *
      have HDD := Lib.hid hDD
      clear hDD
      go_enter Tryd.func42, Tryd.ntmps42
      go_wp2_with fail
      refine wp_region_B (S := fun w' => w'.cell? ⟨w.heap.size, 0, none⟩ = some (.int .i64 (d : Int)) ∧ w'.cell? ⟨w.heap.size, 1, none⟩ = some (.int .i64 (k : Int)) ∧ w'.cell? ⟨b, off + d * 2, none⟩ = some (.string xs[d].name)) (T := fun _ => True) (d := 99) (by kernel_rfl) ?_
      generalize hWA : (w.alloc (.cells #[.int .i64 (d : Int), .int .i64 (k : Int)] 44)) = W2 at *
      clear hWA
      have hS1 : W2.drew.cell? ⟨w.heap.size, 0, none⟩ = some (.int .i64 (d : Int)) ∧ W2.drew.cell? ⟨w.heap.size, 1, none⟩ = some (.int .i64 (k : Int)) ∧ W2.drew.cell? ⟨b, off + d * 2, none⟩ = some (.string xs[d].name) := ⟨y0, y1, c0⟩
      have hT1 : True := trivial
      have hb2 : b < W2.drew.heap.size := hb
      have klt2 : w.heap.size < W2.drew.heap.size := klt
      have hB1 : Below w.heap.size w W2.drew := hB0.drew
      generalize W2.drew = wd at *
      refine wpAnyB_take (i := 0) (v := ?_) rfl (by decide) (by kernel_rfl) (by kernel_rfl) (by kernel_rfl) (fun _ _ _ h => h) (Or.inl ⟨by rfl, ?hy0⟩) hS1 (fun _ => hT1) ?_
      case hy0 => (intro W hSw; obtain ⟨hSa, hSb, hSc⟩ := hSw; (try dsimp only at hSa hSb hSc); go_simp; try with_reducible rfl)
      (try simp only [Act.put, List.getElem_toArray, List.getElem_cons_zero, List.getElem_cons_succ, List.setIfInBounds_toArray, List.set_cons_zero, List.set_cons_succ])
      refine wpAnyB_take (i := 1) (v := ?_) rfl (by decide) (by kernel_rfl) (by kernel_rfl) (by kernel_rfl) (fun _ _ _ h => h) (Or.inl ⟨by rfl, ?hy1⟩) hS1 (fun _ => hT1) ?_
      case hy1 => (intro W hSw; obtain ⟨hSa, hSb, hSc⟩ := hSw; (try dsimp only at hSa hSb hSc); go_simp; try with_reducible rfl)
      (try simp only [Act.put, List.getElem_toArray, List.getElem_cons_zero, List.getElem_cons_succ, List.setIfInBounds_toArray, List.set_cons_zero, List.set_cons_succ])
      refine wpAnyB_take (i := 2) (v := ?_) rfl (by decide) (by kernel_rfl) (by kernel_rfl) (by kernel_rfl) (fun _ _ _ h => h) (Or.inl ⟨by rfl, ?hy2⟩) hS1 (fun _ => hT1) ?_
      case hy2 => (intro W hSw; obtain ⟨hSa, hSb, hSc⟩ := hSw; (try dsimp only at hSa hSb hSc); go_simp; try with_reducible rfl)
      (try simp only [Act.put, List.getElem_toArray, List.getElem_cons_zero, List.getElem_cons_succ, List.setIfInBounds_toArray, List.set_cons_zero, List.set_cons_succ])
      refine wpAnyB_take (i := 3) (v := ?_) rfl (by decide) (by kernel_rfl) (by kernel_rfl) (by kernel_rfl) (fun _ _ _ h => h) (Or.inl ⟨by rfl, ?hy3⟩) hS1 (fun _ => hT1) ?_
      case hy3 => (intro W hSw; obtain ⟨hSa, hSb, hSc⟩ := hSw; (try dsimp only at hSa hSb hSc); go_simp; try with_reducible rfl)
      (try simp only [Act.put, List.getElem_toArray, List.getElem_cons_zero, List.getElem_cons_succ, List.setIfInBounds_toArray, List.set_cons_zero, List.set_cons_succ])
      refine wpAnyB_take (i := 4) (v := ?_) rfl (by decide) (by kernel_rfl) (by kernel_rfl) (by kernel_rfl) (fun _ _ _ h => h) (Or.inl ⟨by rfl, ?hy4⟩) hS1 (fun _ => hT1) ?_
      case hy4 => (intro W hSw; obtain ⟨hSa, hSb, hSc⟩ := hSw; (try dsimp only at hSa hSb hSc); go_simp; try with_reducible rfl)
      (try simp only [Act.put, List.getElem_toArray, List.getElem_cons_zero, List.getElem_cons_succ, List.setIfInBounds_toArray, List.set_cons_zero, List.set_cons_succ])
      refine wpAnyB_take (i := 5) (v := ?_) rfl (by decide) (by kernel_rfl) (by kernel_rfl) (by kernel_rfl) (fun _ _ _ h => h) (Or.inl ⟨by rfl, ?hy5⟩) hS1 (fun _ => hT1) ?_
      case hy5 => (intro W hSw; obtain ⟨hSa, hSb, hSc⟩ := hSw; (try dsimp only at hSa hSb hSc); go_simp; try with_reducible rfl)
      (try simp only [Act.put, List.getElem_toArray, List.getElem_cons_zero, List.getElem_cons_succ, List.setIfInBounds_toArray, List.set_cons_zero, List.set_cons_succ])
      refine wpAnyB_take (i := 6) (v := ?_) rfl (by decide) (by kernel_rfl) (by kernel_rfl) (by kernel_rfl) (fun _ _ _ h => h) (Or.inl ⟨by rfl, ?hy6⟩) hS1 (fun _ => hT1) ?_
      case hy6 => (intro W hSw; obtain ⟨hSa, hSb, hSc⟩ := hSw; (try dsimp only at hSa hSb hSc); go_simp; try with_reducible rfl)
      (try simp only [Act.put, List.getElem_toArray, List.getElem_cons_zero, List.getElem_cons_succ, List.setIfInBounds_toArray, List.set_cons_zero, List.set_cons_succ])
      refine wpAnyB_take (i := 7) (v := ?_) rfl (by decide) (by kernel_rfl) (by kernel_rfl) (by kernel_rfl) (fun _ _ _ h => h) (Or.inl ⟨by rfl, ?hy7⟩) hS1 (fun _ => hT1) ?_
      case hy7 => (intro W hSw; obtain ⟨hSa, hSb, hSc⟩ := hSw; (try dsimp only at hSa hSb hSc); go_simp; try with_reducible rfl)
      (try simp only [Act.put, List.getElem_toArray, List.getElem_cons_zero, List.getElem_cons_succ, List.setIfInBounds_toArray, List.set_cons_zero, List.set_cons_succ])
      refine wpAnyB_ready (rs := [8]) (by kernel_rfl) (by simp) ?_
      refine AllReadyB.cons rfl (fun K hK => ?_) AllReadyB.nil
      go_simp
      go_at_call 50
      with_reducible refine (strconv_Itoa k hk wd).mono ?_
      rintro e w' ⟨rfl, hB'⟩
      rw [HDD.out]
      have hS2 : w'.cell? ⟨w.heap.size, 0, none⟩ = some (.int .i64 (d : Int)) ∧ w'.cell? ⟨w.heap.size, 1, none⟩ = some (.int .i64 (k : Int)) ∧ w'.cell? ⟨b, off + d * 2, none⟩ = some (.string xs[d].name) := ⟨(hB'.cell klt2).trans hS1.1, (hB'.cell klt2).trans hS1.2.1, (hB'.cell hb2).trans hS1.2.2⟩
      dsimp only
      refine hK.out _ _ hS2 (fun _ => trivial) ?_
      clear hK K
      (try simp only [Act.put, List.getElem_toArray, List.getElem_cons_zero, List.getElem_cons_succ, List.setIfInBounds_toArray, List.set_cons_zero, List.set_cons_succ])
      refine wpAnyB_ready (rs := [9]) (by kernel_rfl) (by simp) ?_
      refine AllReadyB.cons rfl (fun K hK => ?_) AllReadyB.nil
      go_simp
      refine hK.out _ _ hS2 (fun _ => trivial) ?_
      clear hK K
      (try simp only [Act.put, List.getElem_toArray, List.getElem_cons_zero, List.getElem_cons_succ, List.setIfInBounds_toArray, List.set_cons_zero, List.set_cons_succ])
      refine wpAnyB_take (i := 10) (v := ?_) rfl (by decide) (by kernel_rfl) (by kernel_rfl) (by kernel_rfl) (fun _ _ _ h => h) (Or.inl ⟨by rfl, ?hy10⟩) hS2 (fun _ => hT1) ?_
      case hy10 => (intro W hSw; obtain ⟨hSa, hSb, hSc⟩ := hSw; (try dsimp only at hSa hSb hSc); go_simp; try with_reducible rfl)
      (try simp only [Act.put, List.getElem_toArray, List.getElem_cons_zero, List.getElem_cons_succ, List.setIfInBounds_toArray, List.set_cons_zero, List.set_cons_succ])
      refine wpAnyB_end (by kernel_rfl) ?_
      have hB3 := hB1.trans (hB'.mono hB1.size)
      clear hS1 hT1 hS2 y0 y1 c0
      go_wp2
      go_ret
      exact ⟨ret_str hf.out.symm, hB3⟩
    | false =>
      have hi0 : ¬ i > 0 := by simpa using q1
      cases q2 : (i == -1) with
      | true =>
        have hi1 : i = -1 := beq_iff_eq.1 q2
        have hf : Hid (bs (tyT xs ⟨(d : Int), i⟩) = xs[d].name ++ ⟨#[42]⟩) := by
          unfold Hid; rw [hf0]; unfold idxT; rw [if_neg (by omega), if_pos hi1]; rfl
        have hcat : xs[d].name.size + 1 ≤ 9223372036854775807 := by omega
        have hcat2 : (xs[d].name.size : Int) + 1 ≤ 9223372036854775807 := by omega
        have hcat3 : ¬ 9223372036854775807 < (xs[d].name.size : Int) + 1 := by omega
        have hcat4 : ¬ 9223372036854775807 < xs[d].name.size + 1 := by omega
        clear hf0 hi0 hi1 hns
        go_enter Tryd.func42, Tryd.ntmps42
        go_wp2
        go_ret
        exact ⟨ret_str hf.out.symm, hB0⟩
      | false =>
        have hi1 : i = 0 := by rw [beq_eq_false_iff_ne] at q2; have := HI.out; omega
        have hf : Hid (bs (tyT xs ⟨(d : Int), i⟩) = xs[d].name) := by
          unfold Hid; rw [hf0]; unfold idxT; rw [if_pos hi1]; exact bytes_append_empty _
        clear hf0 hi0 hi1
        go_enter Tryd.func42, Tryd.ntmps42
        go_wp2
        go_ret
        exact ⟨ret_str hf.out.symm, hB0⟩

/-- the text of a type, empty where it is none -/
def fmtTy (xs : List Dt) (t : Ty) : ByteArray := if typeValidB xs t = true then bs (tyT xs t) else ⟨#[]⟩
theorem fmtTy_yes {xs : List Dt} {t : Ty} (h : typeValidB xs t = true) : fmtTy xs t = bs (tyT xs t) := if_pos h
theorem fmtTy_no {xs : List Dt} {t : Ty} (h : typeValidB xs t = false) : fmtTy xs t = ⟨#[]⟩ := if_neg (by simp [h])

theorem typeOkB_toArg {n : Int} {t : Ty} (h : typeOkB n t = true) : argOkB n t = true := by
  rw [← typeOkB_arg, Bool.and_eq_true] at h
  exact h.1
set_option maxRecDepth 100000 in
set_option maxHeartbeats 1600000 in
theorem impl_FormatType (xs : List Dt) (t : Ty) (w : World) (v : Value) (F : List Nat) (hx : Arr w (DtR w) xs v F) (hf : Under w.heap.size F) :
    Calls Tryd.prog 19 #[v, .agg #[.int .i64 t.d, .int .i64 t.i]] w fun e w' => e = .returned (.string (fmtTy xs t)) ∧ Below w.heap.size w w' := by
  obtain ⟨A, cap, rfl, hc1, hc2⟩ := hx.form
  have HX := Lib.hid hx
  have HF := Lib.hid hf
  clear hx hf
  go_enter Tryd.func19, Tryd.ntmps19
  go_wp2_with fail
  obtain ⟨W2, hW2⟩ : ∃ W2, W2 = w.alloc (.cells #[.int .i64 t.d, .int .i64 t.i] 44) := ⟨_, rfl⟩
  have hB2 : Below w.heap.size w W2 := by rw [hW2]; exact (Below.refl _ _).alloc (Nat.le_refl _) _
  have k1 : Blk W2 w.heap.size 44 #[.int .i64 t.d, .int .i64 t.i] := by rw [hW2]; exact Blk.new _ _ _
  rw [← hW2]
  clear hW2
  refine (impl_TypeValid xs t W2 _ F (ArrDt.below HX.out hB2 HF.out) (HF.out.mono hB2.size)).mono ?_
  rintro e w' ⟨rfl, hB'⟩
  have hB3 := hB2.trans (hB'.mono hB2.size)
  have k2 := k1.same (hB'.block _ k1.lt)
  have x0 : w'.cell? ⟨w.heap.size, 0, none⟩ = some (.int .i64 t.d) := (k2.cell 0).trans (by simp)
  have x1 : w'.cell? ⟨w.heap.size, 1, none⟩ = some (.int .i64 t.i) := (k2.cell 1).trans (by simp)
  have hlt := k2.lt
  clear k1 k2
  cases h1 : typeValidB xs t with
  | false =>
    have hf := Lib.hid (fmtTy_no h1)
    clear h1
    go_wp2
    go_ret
    exact ⟨ret_str hf.out.symm, hB3⟩
  | true =>
    have hf := Lib.hid (fmtTy_yes h1)
    obtain ⟨hw, hto⟩ := typeValid_split h1
    have HW := Lib.hid hw
    have HT := Lib.hid (typeOkB_toArg hto)
    clear h1 hw hto
    go_wp2_with fail
    refine (impl_typeText xs HW.out t HT.out w' _ F (ArrDt.below HX.out hB3 HF.out) (HF.out.mono hB3.size)).mono ?_
    rintro e w2 ⟨rfl, hB4⟩
    have hB5 := hB3.trans (hB4.mono hB3.size)
    rw [← hf.out]
    go_wp2
    go_ret
    exact ⟨rfl, hB5⟩
set_option maxRecDepth 100000 in
set_option maxHeartbeats 1600000 in
theorem spec_FormatType (xs : List Dt) (t : Ty) (w : World) (v : Value) (F : List Nat) (hx : Arr w (DtR w) xs v F) (hf : Under w.heap.size F) :
    Calls Tryd.prog 16 #[v, .agg #[.int .i64 t.d, .int .i64 t.i]] w fun e w' => e = .returned (.string (fmtTy xs t)) ∧ Below w.heap.size w w' := by
  obtain ⟨A, cap, rfl, hc1, hc2⟩ := hx.form
  have HX := Lib.hid hx
  have HF := Lib.hid hf
  clear hx hf
  go_enter Tryd.func16, Tryd.ntmps16
  go_wp2_with fail
  obtain ⟨W2, hW2⟩ : ∃ W2, W2 = w.alloc (.cells #[.int .i64 t.d, .int .i64 t.i] 44) := ⟨_, rfl⟩
  have hB2 : Below w.heap.size w W2 := by rw [hW2]; exact (Below.refl _ _).alloc (Nat.le_refl _) _
  have k1 : Blk W2 w.heap.size 44 #[.int .i64 t.d, .int .i64 t.i] := by rw [hW2]; exact Blk.new _ _ _
  rw [← hW2]
  clear hW2
  refine (spec_TypeValid xs t W2 _ F (ArrDt.below HX.out hB2 HF.out) (HF.out.mono hB2.size)).mono ?_
  rintro e w' ⟨rfl, hB'⟩
  have hB3 := hB2.trans (hB'.mono hB2.size)
  have k2 := k1.same (hB'.block _ k1.lt)
  have x0 : w'.cell? ⟨w.heap.size, 0, none⟩ = some (.int .i64 t.d) := (k2.cell 0).trans (by simp)
  have x1 : w'.cell? ⟨w.heap.size, 1, none⟩ = some (.int .i64 t.i) := (k2.cell 1).trans (by simp)
  have hlt := k2.lt
  clear k1 k2
  cases h1 : typeValidB xs t with
  | false =>
    have hf := Lib.hid (fmtTy_no h1)
    clear h1
    go_wp2
    go_ret
    exact ⟨ret_str hf.out.symm, hB3⟩
  | true =>
    have hf := Lib.hid (fmtTy_yes h1)
    obtain ⟨hw, hto⟩ := typeValid_split h1
    have HW := Lib.hid hw
    have HT := Lib.hid (typeOkB_toArg hto)
    clear h1 hw hto
    go_wp2_with fail
    refine (spec_l1Type xs HW.out t HT.out w' _ F (ArrDt.below HX.out hB3 HF.out) (HF.out.mono hB3.size)).mono ?_
    rintro e w2 ⟨rfl, hB4⟩
    have hB5 := hB3.trans (hB4.mono hB3.size)
    rw [← hf.out]
    go_wp2
    go_ret
    exact ⟨rfl, hB5⟩
end Go.Proofs.YtcknbkbejifhcaaDoor

namespace Go.Proofs.YtcknbkbejifhcaaDoor
open Go.RowKit

section
variable {α : Type} {w w' : World} {B k : Nat} {E : TypeId} {R : World → α → List Value → List Nat → Prop} {xs : List α} {v : Value} {F : List Nat}
variable {P : Program}
theorem step_push {ops : Array Oper} {o : Oper} {a : Act} {K : Act → World → Prop} {Q : Exit → Act → World → Prop} {EE : Prop} (hgd : o.guard = none) (s x : Operand) (t : TypeId)
    (ho : o.op = .call { callee := .builtin .append, args := #[s, x], argTypes := #[t, t] })
    (i : TypeInfo) (z : Value) (bytes : Nat) (ht : P.underlying t = some (.slice E)) (hi : P.info? E = some i) (hz : i.zero = some z)
    (hsize : i.size = k) (hby : i.bytes = bytes) (hzs : z.cells.size = k) (hk : 0 < k)
    (hRl : ∀ x cs G, R w x cs G → cs.length = k) (hRm : ∀ w' x cs G, Kept G w w' → R w x cs G → R w' x cs G)
    (hs : a.eval s = v) (hown : Own w B E k R xs v F) (ys : List α) (ad : Addr) (c : Nat) (news : List Value) (G : List Nat)
    (hx : a.eval x = .slice (some ad) ys.length c) (hnews : ∀ j u, news[j]? = some u → w.cell? (ad.add j) = some u) (h1 : ∀ u ∈ news, u.oneCell' = true)
    (hys : Flat (R w) ys news G) (hG : Under w.heap.size G) (hvG : ∀ g ∈ rowOf v, g ∉ G)
    (hm : 0 < ys.length) (h63 : xs.length + ys.length ≤ maxLen) (hbytes : (xs.length + ys.length) * bytes ≤ 140737488355328) (hbase : B ≤ w.heap.size)
    (h : ∀ g cap w', Own w' B E k R (xs ++ ys) (.slice (some ⟨g, 0, none⟩) (xs.length + ys.length) cap) (F ++ G) → w.grownBy w' v.ownBlock → (v.ownBlock = some g ∨ g = w.heap.size) →
      K (a.put o.dst (.slice (some ⟨g, 0, none⟩) (xs.length + ys.length) cap)) w') : if Region.wanted o (yielded ops a.tmps) = true then Oper.wp P o a w K Q else EE := by
  obtain ⟨cs, h2, h3, h4, h5⟩ := id hown
  refine step_append_lies w hgd s x t ho B E i z k bytes ht hi hz hsize hby hzs hk v xs.length cs hs h2 ad ys.length c news hx (hys.length hRl) hnews h1 hm h63 hbytes hbase w.heap.size rfl
    fun g cap w1 hr hgr hat hlt => h g cap w1 ⟨cs ++ news, by rw [List.length_append]; exact hr, ?_, ?_, ?_⟩ hgr hat
  · exact (h3.mono fun x _ ds H hH hr => hRm w1 x ds H (grown_kept hgr (h4.sub hH) fun g hg hn => h5 g hg (hH g hn)) hr).append (hys.mono fun x _ ds H hH hr => hRm w1 x ds H (grown_kept hgr (hG.sub hH) fun g hg hn => hvG g hg (hH g hn)) hr)
  · intro b hb
    rcases List.mem_append.1 hb with hb | hb
    · exact Nat.lt_of_lt_of_le (h4 b hb) hgr.size
    · exact Nat.lt_of_lt_of_le (hG b hb) hgr.size
  · intro b hb hbF
    rw [rowOf_some, List.mem_singleton] at hb
    subst hb
    rcases hat with hat | rfl
    · rcases List.mem_append.1 hbF with hb | hb
      · exact h5 b (mem_rowOf.2 hat) hb
      · exact hvG b (mem_rowOf.2 hat) hb
    · rcases List.mem_append.1 hbF with hb | hb
      · exact Nat.lt_irrefl _ (h4 _ hb)
      · exact Nat.lt_irrefl _ (hG _ hb)


theorem step_push1 {ops : Array Oper} {o : Oper} {a : Act} {K : Act → World → Prop} {Q : Exit → Act → World → Prop} {EE : Prop} (hgd : o.guard = none) (s x : Operand) (t : TypeId)
    (ho : o.op = .call { callee := .builtin .append, args := #[s, x], argTypes := #[t, t] })
    (i : TypeInfo) (z : Value) (bytes : Nat) (ht : P.underlying t = some (.slice E)) (hi : P.info? E = some i) (hz : i.zero = some z)
    (hsize : i.size = k) (hby : i.bytes = bytes) (hzs : z.cells.size = k) (hk : 0 < k)
    (hRl : ∀ w x cs G, R w x cs G → cs.length = k) (hRm : ∀ w w' x cs G, Kept G w w' → R w x cs G → R w' x cs G)
    (hs : a.eval s = v) (hown : Own w B E k R xs v F) (y : α) (T : TypeId) (news : List Value) (G : List Nat)
    (H : Nat) (hx : a.eval x = .slice (some ⟨H, 0, none⟩) 1 1) (hH : w.heap.size = H) (h1 : ∀ u ∈ news, u.oneCell' = true)
    (hy : R w y news G) (hG : Under w.heap.size G) (hvG : ∀ g ∈ rowOf v, g ∉ G)
    (h63 : xs.length + 1 ≤ maxLen) (hbytes : (xs.length + 1) * bytes ≤ 140737488355328) (hbase : B ≤ w.heap.size)
    (h : ∀ g cap w', Own w' B E k R (xs ++ [y]) (.slice (some ⟨g, 0, none⟩) (xs.length + 1) cap) (F ++ G) → (w.alloc (.cells news.toArray T)).grownBy w' v.ownBlock → (v.ownBlock = some g ∨ g = w.heap.size + 1) →
      K (a.put o.dst (.slice (some ⟨g, 0, none⟩) (xs.length + 1) cap)) w') : if Region.wanted o (yielded ops a.tmps) = true then Oper.wp P o a (w.alloc (.cells news.toArray T)) K Q else EE := by
  subst hH
  have hb := (Below.refl w.heap.size w).alloc (Nat.le_refl _) (.cells news.toArray T)
  have hk1 : Kept G w (w.alloc (.cells news.toArray T)) := .of_below hb hG
  refine step_push hgd s x t ho i z bytes ht hi hz hsize hby hzs hk (hRl _) (fun w' => hRm _ w') hs (hown.below (fun x cs G hk h => hRm _ _ x cs G hk h) hb) [y] ⟨w.heap.size, 0, none⟩ 1 news G hx ?_ h1 (Flat.one (hRm _ _ _ _ _ hk1 hy)) (hG.mono hb.size) hvG Nat.zero_lt_one h63 hbytes (Nat.le_trans hbase hb.size)
    (fun g cap w' h2 h3 h4 => h g cap w' h2 h3 (by simpa using h4))
  intro j u hj
  exact World.news_of_block (heap_alloc_new w (.cells news.toArray T)) j u (by simpa using hj)
end
end Go.Proofs.YtcknbkbejifhcaaDoor

namespace Go.Proofs.YtcknbkbejifhcaaDoor
open Go.RowKit

def tysB (xs : List Dt) (l : List Ty) (i : Nat) : List ByteArray := (l.take i).map (tyB xs)
def ktsB (xs : List Dt) (l : List Kt) (i : Nat) : List ByteArray := (l.take i).map (ktB xs)
def dtsB (xs : List Dt) (i : Nat) : List ByteArray := (xs.take i).map (dtB xs)
theorem tysB_len (xs : List Dt) (l : List Ty) (i : Nat) : (tysB xs l i).length ≤ i := by unfold tysB; rw [List.length_map, List.length_take]; omega
theorem ktsB_len (xs : List Dt) (l : List Kt) (i : Nat) : (ktsB xs l i).length ≤ i := by unfold ktsB; rw [List.length_map, List.length_take]; omega
theorem dtsB_len (xs : List Dt) (i : Nat) : (dtsB xs i).length ≤ i := by unfold dtsB; rw [List.length_map, List.length_take]; omega
theorem tysB_succ (xs : List Dt) (l : List Ty) (i : Nat) (h : i < l.length) : tysB xs l (i + 1) = tysB xs l i ++ [tyB xs l[i]] := by unfold tysB; rw [take_snoc' l i h, List.map_append]; rfl
theorem ktsB_succ (xs : List Dt) (l : List Kt) (i : Nat) (h : i < l.length) : ktsB xs l (i + 1) = ktsB xs l i ++ [ktB xs l[i]] := by unfold ktsB; rw [take_snoc' l i h, List.map_append]; rfl
theorem dtsB_succ (xs : List Dt) (i : Nat) (h : i < xs.length) : dtsB xs (i + 1) = dtsB xs i ++ [dtB xs xs[i]] := by unfold dtsB; rw [take_snoc' xs i h, List.map_append]; rfl
theorem tysB_all (xs : List Dt) (l : List Ty) {i : Nat} (h : l.length ≤ i) : tysB xs l i = l.map (tyB xs) := by unfold tysB; rw [List.take_of_length_le h]
theorem ktsB_all (xs : List Dt) (l : List Kt) {i : Nat} (h : l.length ≤ i) : ktsB xs l i = l.map (ktB xs) := by unfold ktsB; rw [List.take_of_length_le h]
theorem dtsB_all (xs : List Dt) {i : Nat} (h : xs.length ≤ i) : dtsB xs i = xs.map (dtB xs) := by unfold dtsB; rw [List.take_of_length_le h]
theorem StrR_len' (w : World) (x : ByteArray) (cs : List Value) (F : List Nat) (h : StrR w x cs F) : cs.length = 1 := StrR_len w x cs F h
theorem listedT_len {xs : List Dt} (hw : WorldOK xs) {c : Kt} (hc : KtOk xs.length c) : (listedT (c.args.map (tyB xs))).length ≤ 20 := by
  rw [listedT_args, List.length_append]
  have h1 := argsT_len hw c.args true
  have h2 := closeT_len c
  have h3 := hc.args
  omega
theorem joinArgs_len {xs : List Dt} (hw : WorldOK xs) {c : Kt} (hc : KtOk xs.length c) : (Lib.join ((c.args.map (tyB xs)).map tl) [44]).length ≤ 1000000 := by
  have h := listedT_len hw hc
  unfold listedT at h
  cases hl : c.args with
  | nil => simp [Lib.join, List.intercalate]
  | cons a l =>
    rw [hl, if_neg (by simp)] at h
    simp only [List.length_cons, List.length_append] at h ⊢
    omega
set_option maxRecDepth 100000 in
set_option maxHeartbeats 1600000 in
theorem impl_listed (ss : List ByteArray) (hl : ss.length ≤ 1000) (hj : (Lib.join (ss.map tl) [44]).length ≤ 1000000) (w : World) (v : Value) (F : List Nat) (hx : Arr w (StrR w) ss v F) (hf : Under w.heap.size F) :
    Calls Tryd.prog 49 #[v] w fun e w' => e = .returned (.string (bs (listedT ss))) ∧ Below w.heap.size w w' := by
  obtain ⟨A, cap, rfl, hc1, hc2⟩ := hx.form
  have HX := Lib.hid hx
  have HF := Lib.hid hf
  clear hx hf
  by_cases h0 : ss = []
  · have t0 : ((ss.length : Int) == 0) = true := by rw [h0]; rfl
    have hf : Hid (bs (listedT ss) = ⟨#[]⟩) := by unfold Hid listedT; rw [if_pos h0]; rfl
    clear h0
    go_enter Tryd.func49, Tryd.ntmps49
    go_wp2
    go_ret
    exact ⟨ret_str hf.out.symm, Below.refl _ _⟩
  · have t0 : ((ss.length : Int) == 0) = false := by
      rw [beq_eq_false_iff_ne]; intro h; exact h0 (List.length_eq_zero_iff.1 (by omega))
    have hf0 : bs (listedT ss) = (bs [40] ++ bs (Lib.join (ss.map tl) [44])) ++ bs [41] := by
      unfold listedT; rw [if_neg h0, bs_append, bs_append]; rfl
    have hsz : (bs (Lib.join (ss.map tl) [44])).size ≤ 1000000 := by rw [bs_size]; exact hj
    have HJ := Lib.hid hj
    clear h0 hj
    obtain ⟨J, hJ⟩ : ∃ j, bs (Lib.join (ss.map tl) [44]) = j := ⟨_, rfl⟩
    rw [hJ] at hf0 hsz
    have HJJ := Lib.hid hJ
    have hf := Lib.hid hf0
    clear hJ hf0
    have hj1 : 1 + J.size ≤ 9223372036854775807 := by omega
    have hj3 : ¬ 9223372036854775807 < 1 + J.size := by omega
    have hj4 : 1 + J.size + 1 ≤ 9223372036854775807 := by omega
    have hj5 : ¬ 9223372036854775807 < 1 + J.size + 1 := by omega
    go_enter Tryd.func49, Tryd.ntmps49
    go_wp2_with fail
    refine (join_call ss ⟨#[44]⟩ hl HJ.out w _ F HX.out HF.out).mono ?_
    rintro e w' ⟨rfl, hb'⟩
    rw [show bs (Lib.join (ss.map tl) (tl ⟨#[44]⟩)) = J from HJJ.out]
    go_wp2
    go_ret
    exact ⟨ret_str hf.out.symm, hb'⟩
set_option maxRecDepth 100000 in
set_option maxHeartbeats 40000000 in
theorem impl_worldText (xs : List Dt) (hw : WorldOK xs) (w : World) (v : Value) (F : List Nat) (hx : Arr w (DtR w) xs v F) (hf : Under w.heap.size F) :
    Calls Tryd.prog 27 #[v] w fun e w' => e = .returned (.string (bs (textT xs))) ∧ Below w.heap.size w w' := by
  obtain ⟨A, cap, rfl, hc1, hc2⟩ := hx.form
  have hlen := hw.len
  have HW := Lib.hid hw
  have HX := Lib.hid hx
  have HF := Lib.hid hf
  clear hx hf hw
  obtain ⟨i0, hi, hz0, hz1, hz2⟩ := info_parts info_strE
  have HI := Lib.hid hi
  have HZ0 := Lib.hid hz0
  have HZ1 := Lib.hid hz1
  have HZ2 := Lib.hid hz2
  clear hi hz0 hz1 hz2
  go_enter Tryd.func27, Tryd.ntmps27
  go_wp2
  go_loopw [3, 15] (fun dv iv wr => ∃ d : Nat, d ≤ xs.length ∧ iv = .int .i64 d ∧ Hid (Own wr w.heap.size 9 1 StrR (dtsB xs d) dv []) ∧ Below w.heap.size w wr) (fun _ iv _ => xs.length - (intOf iv).toNat)
  case atStart => exact ⟨0, Nat.zero_le _, rfl, (show Own _ _ _ _ _ (dtsB xs 0) _ _ from Own.nil _ _ _ _ _), Below.refl _ _⟩
  case round =>
    obtain ⟨d, hdl, rfl, HOD, hB⟩ := hrel
    by_cases hd : d < xs.length
    · obtain ⟨b, off, rfl⟩ := HX.out.ptr (by omega)
      obtain ⟨A3, cap3, G3, hb3, n0, n1, HK, HG, -, hk1, hk2⟩ := ArrDt.at HX.out HF.out hB d hd
      have g1 : (0 : Int) ≤ (d : Int) := by omega
      have g2 : (d : Int) < (xs.length : Int) := by omega
      have e1 : decide (d < xs.length) = true := by simpa using hd
      have hbe : Below wr.heap.size wr (wr.alloc (.cells #[.string xs[d].name, .slice A3 xs[d].ctors.length cap3] 30)) := (Below.refl _ _).alloc (Nat.le_refl _) _
      have HODq : Hid (Own (wr.alloc (.cells #[.string xs[d].name, .slice A3 xs[d].ctors.length cap3] 30)) w.heap.size 9 1 StrR (dtsB xs d) u3 []) := HOD.out.below (fun x cs G hk h => StrR_mono _ _ x cs G hk h) hbe
      have hBwq : Below w.heap.size w (wr.alloc (.cells #[.string xs[d].name, .slice A3 xs[d].ctors.length cap3] 30)) := hB.trans (hbe.mono hB.size)
      have KD : Hid (Blk (wr.alloc (.cells #[.string xs[d].name, .slice A3 xs[d].ctors.length cap3] 30)) wr.heap.size 30 #[.string xs[d].name, .slice A3 xs[d].ctors.length cap3]) := Blk.new _ _ _
      have HKN : Hid (wr.heap.size ∉ rowOf u3) := fun h => Nat.lt_irrefl _ (HOD.out.row _ h).2
      have hdc : xs[d].ctors.length ≤ 4 := (HW.out.at hd).hi
      go_wp2
      generalize (wr.alloc (.cells #[.string xs[d].name, .slice A3 xs[d].ctors.length cap3] 30)) = wq at *
      generalize wr.heap.size = kd at *
      clear n0 n1 hb3 hbe HOD hB
      go_loopw [6, 22] (fun cv jv ws => ∃ j : Nat, j ≤ xs[d].ctors.length ∧ jv = .int .i64 j ∧ Hid (Own ws wq.heap.size 9 1 StrR (ktsB xs xs[d].ctors j) cv []) ∧ Below wq.heap.size wq ws) (fun _ jv _ => xs[d].ctors.length - (intOf jv).toNat)
      case atStart => exact ⟨0, Nat.zero_le _, rfl, (show Own _ _ _ _ _ (ktsB xs xs[d].ctors 0) _ _ from Own.nil _ _ _ _ _), Below.refl _ _⟩
      case round =>
        obtain ⟨j, hj, rfl, HOK, hB2⟩ := hrel
        have hBw1 : Below w.heap.size w wr := hBwq.trans (hB2.mono hBwq.size)
        by_cases hjl : j < xs[d].ctors.length
        · obtain ⟨b3, off3, rfl⟩ := HK.out.ptr (by omega)
          obtain ⟨A4, cap4, G4, hb4, p0, p1, p2, HT, HTG, hnm, hc3, hc4⟩ := ArrKt.at HK.out HG.out hBw1 j hjl
          have HKO := Lib.hid (HW.out.ctor hd hjl)
          have hal4 : xs[d].ctors[j].args.length ≤ 3 := HKO.out.args
          have g3 : (0 : Int) ≤ (j : Int) := by omega
          have g4 : (j : Int) < (xs[d].ctors.length : Int) := by omega
          have e2 : decide (j < xs[d].ctors.length) = true := by simpa using hjl
          have hbe : Below wr.heap.size wr (wr.alloc (.cells #[.string xs[d].ctors[j].name, .slice A4 xs[d].ctors[j].args.length cap4, .int .i64 xs[d].ctors[j].idx] 27)) := (Below.refl _ _).alloc (Nat.le_refl _) _
          have HOK2 : Hid (Own (wr.alloc (.cells #[.string xs[d].ctors[j].name, .slice A4 xs[d].ctors[j].args.length cap4, .int .i64 xs[d].ctors[j].idx] 27)) wq.heap.size 9 1 StrR (ktsB xs xs[d].ctors j) u6 []) := HOK.out.below (fun x cs G hk h => StrR_mono _ _ x cs G hk h) hbe
          have hBq2 : Below wq.heap.size wq (wr.alloc (.cells #[.string xs[d].ctors[j].name, .slice A4 xs[d].ctors[j].args.length cap4, .int .i64 xs[d].ctors[j].idx] 27)) := hB2.trans (hbe.mono hB2.size)
          have hBw2 : Below w.heap.size w (wr.alloc (.cells #[.string xs[d].ctors[j].name, .slice A4 xs[d].ctors[j].args.length cap4, .int .i64 xs[d].ctors[j].idx] 27)) := hBw1.trans (hbe.mono hBw1.size)
          have KC : Hid (Blk (wr.alloc (.cells #[.string xs[d].ctors[j].name, .slice A4 xs[d].ctors[j].args.length cap4, .int .i64 xs[d].ctors[j].idx] 27)) wr.heap.size 27 #[.string xs[d].ctors[j].name, .slice A4 xs[d].ctors[j].args.length cap4, .int .i64 xs[d].ctors[j].idx]) := Blk.new _ _ _
          have HNIL : Hid (Own (wr.alloc (.cells #[.string xs[d].ctors[j].name, .slice A4 xs[d].ctors[j].args.length cap4, .int .i64 xs[d].ctors[j].idx] 27)) (wr.alloc (.cells #[.string xs[d].ctors[j].name, .slice A4 xs[d].ctors[j].args.length cap4, .int .i64 xs[d].ctors[j].idx] 27)).heap.size 9 1 StrR (tysB xs xs[d].ctors[j].args 0) (.slice none 0 0) []) := (show Own _ _ _ _ _ (tysB xs xs[d].ctors[j].args 0) _ _ from Own.nil _ _ _ _ _)
          go_wp2
          generalize (wr.alloc (.cells #[.string xs[d].ctors[j].name, .slice A4 xs[d].ctors[j].args.length cap4, .int .i64 xs[d].ctors[j].idx] 27)) = wq2 at *
          generalize wr.heap.size = kc at *
          clear p0 p1 p2 hb4 hbe HOK hB2 hBw1
          go_loopw [9, 29] (fun av iv ws => ∃ i : Nat, i ≤ xs[d].ctors[j].args.length ∧ iv = .int .i64 i ∧ Hid (Own ws wq2.heap.size 9 1 StrR (tysB xs xs[d].ctors[j].args i) av []) ∧ Below wq2.heap.size wq2 ws) (fun _ iv _ => xs[d].ctors[j].args.length - (intOf iv).toNat)
          case atStart => exact ⟨0, Nat.zero_le _, rfl, HNIL, Below.refl _ _⟩
          case round =>
            clear HNIL
            obtain ⟨i, hi, rfl, HOA, hB3⟩ := hrel
            have hBw3 : Below w.heap.size w wr := hBw2.trans (hB3.mono hBw2.size)
            by_cases hil : i < xs[d].ctors[j].args.length
            · obtain ⟨b4, off4, rfl⟩ := HT.out.ptr (by omega)
              obtain ⟨hbt, y0, y1⟩ := ArrTy.at HT.out HTG.out hBw3 i hil
              have g5 : (0 : Int) ≤ (i : Int) := by omega
              have g6 : (i : Int) < (xs[d].ctors[j].args.length : Int) := by omega
              have e3 : decide (i < xs[d].ctors[j].args.length) = true := by simpa using hil
              have hlm := tysB_len xs xs[d].ctors[j].args i
              have hmx : (tysB xs xs[d].ctors[j].args i).length + 1 ≤ maxLen := by unfold maxLen; omega
              have hby : ((tysB xs xs[d].ctors[j].args i).length + 1) * 16 ≤ 140737488355328 := by omega
              have HSU := Lib.hid (tysB_succ xs xs[d].ctors[j].args i hil)
              have HAO : Hid (argOkB xs.length xs[d].ctors[j].args[i] = true) := HKO.out.all _ (List.getElem_mem hil)
              have hbe : Below wr.heap.size wr (wr.alloc (.cells #[.int .i64 xs[d].ctors[j].args[i].d, .int .i64 xs[d].ctors[j].args[i].i] 44)) := (Below.refl _ _).alloc (Nat.le_refl _) _
              have HO4 : Hid (Own (wr.alloc (.cells #[.int .i64 xs[d].ctors[j].args[i].d, .int .i64 xs[d].ctors[j].args[i].i] 44)) wq2.heap.size 9 1 StrR (tysB xs xs[d].ctors[j].args i) u9 []) := HOA.out.below (fun x cs G hk h => StrR_mono _ _ x cs G hk h) hbe
              have hB4 : Below wq2.heap.size wq2 (wr.alloc (.cells #[.int .i64 xs[d].ctors[j].args[i].d, .int .i64 xs[d].ctors[j].args[i].i] 44)) := hB3.trans (hbe.mono hB3.size)
              have hBw4 : Below w.heap.size w (wr.alloc (.cells #[.int .i64 xs[d].ctors[j].args[i].d, .int .i64 xs[d].ctors[j].args[i].i] 44)) := hBw3.trans (hbe.mono hBw3.size)
              obtain ⟨aA, acap, hav, -, -⟩ := HOA.out.form
              subst hav
              go_wp2_with fail
              generalize (wr.alloc (.cells #[.int .i64 xs[d].ctors[j].args[i].d, .int .i64 xs[d].ctors[j].args[i].i] 44)) = w3 at *
              refine (impl_typeText xs HW.out xs[d].ctors[j].args[i] HAO.out w3 _ F (ArrDt.below HX.out hBw4 HF.out) (HF.out.mono hBw4.size)).mono ?_
              rintro e w4 ⟨rfl, hb4⟩
              have HO5 : Hid (Own w4 wq2.heap.size 9 1 StrR (tysB xs xs[d].ctors[j].args i) (.slice aA (tysB xs xs[d].ctors[j].args i).length acap) []) := HO4.out.below (fun x cs G hk h => StrR_mono _ _ x cs G hk h) hb4
              have hB5 : Below wq2.heap.size wq2 w4 := hB4.trans (hb4.mono hB4.size)
              have hbs5 : wq2.heap.size ≤ w4.heap.size := hB5.size
              rw [show bs (tyT xs xs[d].ctors[j].args[i]) = tyB xs xs[d].ctors[j].args[i] from rfl]
              clear y0 y1 hbt hbe HO4 hB4 hBw4 HOA
              go_wp2_with (at_builtin; refine Halt.mk ?_)
              refine Halt.of (wpList_push1 (P := Tryd.prog) rfl _ _ 51 rfl i0 _ 16 Tryd.underlying51 HI.out HZ0.out HZ1.out HZ2.out rfl Nat.zero_lt_one StrR_len StrR_mono (by rfl) HO5.out (tyB xs xs[d].ctors[j].args[i]) 9 [.string (tyB xs xs[d].ctors[j].args[i])] [] _ (by rfl) rfl (by simp [Value.oneCell']) ⟨rfl, rfl⟩ (Under.nil _) (fun _ _ h => by cases h) hmx hby hbs5 ?_)
              intro g cp w5 hown5 hgr5 hat5
              have hrow := HO5.out.row
              have hB6 : Below wq2.heap.size wq2 w5 := (hB5.alloc hB5.size _).grown hgr5 (by simp; omega) (fun g hg => (hrow g (mem_rowOf.2 hg)).1)
              have HO6 := Lib.hid hown5
              clear hown5 hgr5 hat5 hrow HO5 hB5
              go_wp2
              go_roundw
              case rel => exact ⟨i + 1, hil, by go_num, by rw [HSU.out]; exact HO6.out, hB6⟩
              case measure => (simp [intOf] <;> omega)
            · have e3 : decide (i < xs[d].ctors[j].args.length) = false := by simpa using hil
              have hta : tysB xs xs[d].ctors[j].args i = xs[d].ctors[j].args.map (tyB xs) := tysB_all _ _ (by omega)
              have HAR : Hid (Arr wr (StrR wr) (xs[d].ctors[j].args.map (tyB xs)) u9 (if tysB xs xs[d].ctors[j].args i = [] then [] else rowOf u9 ++ [])) := by rw [← hta]; exact HOA.out.arr
              have HRW := Lib.hid HOA.out.row
              have HUA : Hid (Under wr.heap.size (if tysB xs xs[d].ctors[j].args i = [] then [] else rowOf u9 ++ [])) := fun b hb => by
                split at hb
                · cases hb
                · rw [List.append_nil] at hb; exact (HRW.out b hb).2
              generalize (if tysB xs xs[d].ctors[j].args i = [] then [] else rowOf u9 ++ []) = FA at HAR HUA
              have k0 : wr.cell? ⟨kc, 0, none⟩ = some (.string xs[d].ctors[j].name) := (hB3.cell KC.out.lt).trans ((KC.out.cell 0).trans (by simp))
              have k2 : wr.cell? ⟨kc, 2, none⟩ = some (.int .i64 xs[d].ctors[j].idx) := (hB3.cell KC.out.lt).trans ((KC.out.cell 2).trans (by simp))
              have klt : kc < wr.heap.size := Nat.lt_of_lt_of_le KC.out.lt hB3.size
              have hns : xs[d].ctors[j].name.size ≤ 5 := nameOk_len HKO.out.name
              have hll : (bs (listedT (xs[d].ctors[j].args.map (tyB xs)))).size ≤ 20 := by rw [bs_size]; exact listedT_len HW.out HKO.out
              have HJL := Lib.hid (joinArgs_len HW.out HKO.out)
              have hal : (xs[d].ctors[j].args.map (tyB xs)).length ≤ 1000 := by rw [List.length_map]; have := HKO.out.args; omega
              obtain ⟨L, hL⟩ : ∃ l, bs (listedT (xs[d].ctors[j].args.map (tyB xs))) = l := ⟨_, rfl⟩
              rw [hL] at hll
              have HL := Lib.hid hL
              clear hL hta HOA
              have c1 : xs[d].ctors[j].name.size + L.size ≤ 9223372036854775807 := by omega
              have c2 : (xs[d].ctors[j].name.size : Int) + (L.size : Int) ≤ 9223372036854775807 := by omega
              have c3 : ¬ 9223372036854775807 < xs[d].ctors[j].name.size + L.size := by omega
              have hBw5 : Below w.heap.size w wr.drew := hBw3.drew
              have HUAd : Hid (Under wr.drew.heap.size FA) := HUA.out
              have HARd : Hid (Arr wr.drew (StrR wr.drew) (xs[d].ctors[j].args.map (tyB xs)) u9 FA) := ArrStr.mono HAR.out (fun _ _ => rfl)
              go_wp2_with fail
              refine wp_region_B (S := fun w' => w'.cell? ⟨kc, 0, none⟩ = some (.string xs[d].ctors[j].name)) (T := fun _ => True) (d := 99) (by kernel_rfl) ?_
              have hS1 : wr.drew.cell? ⟨kc, 0, none⟩ = some (.string xs[d].ctors[j].name) := k0
              have hT1 : True := trivial
              refine wpAnyB_take (i := 0) (v := ?_) rfl (by decide) (by kernel_rfl) (by kernel_rfl) (by kernel_rfl) (fun _ _ _ h => h) (Or.inl ⟨by rfl, ?hy0⟩) hS1 (fun _ => hT1) ?_
              case hy0 => (intro W hSw; (try dsimp only at hSw); go_simp; try with_reducible rfl)
              (try simp only [Act.put, List.getElem_toArray, List.getElem_cons_zero, List.getElem_cons_succ, List.setIfInBounds_toArray, List.set_cons_zero, List.set_cons_succ])
              refine wpAnyB_take (i := 1) (v := ?_) rfl (by decide) (by kernel_rfl) (by kernel_rfl) (by kernel_rfl) (fun _ _ _ h => h) (Or.inl ⟨by rfl, ?hy1⟩) hS1 (fun _ => hT1) ?_
              case hy1 => (intro W hSw; (try dsimp only at hSw); go_simp; try with_reducible rfl)
              (try simp only [Act.put, List.getElem_toArray, List.getElem_cons_zero, List.getElem_cons_succ, List.setIfInBounds_toArray, List.set_cons_zero, List.set_cons_succ])
              refine wpAnyB_take (i := 2) (v := ?_) rfl (by decide) (by kernel_rfl) (by kernel_rfl) (by kernel_rfl) (fun _ _ _ h => h) (Or.inl ⟨by rfl, ?hy2⟩) hS1 (fun _ => hT1) ?_
              case hy2 => (intro W hSw; (try dsimp only at hSw); go_simp; try with_reducible rfl)
              (try simp only [Act.put, List.getElem_toArray, List.getElem_cons_zero, List.getElem_cons_succ, List.setIfInBounds_toArray, List.set_cons_zero, List.set_cons_succ])
              refine wpAnyB_ready (rs := [3]) (by kernel_rfl) (by simp) ?_
              refine AllReadyB.cons rfl (fun K hK => ?_) AllReadyB.nil
              go_simp
              go_at_call 49
              with_reducible refine (impl_listed (xs[d].ctors[j].args.map (tyB xs)) hal HJL.out wr.drew _ FA HARd.out HUAd.out).mono ?_
              rintro e w' ⟨rfl, hB'⟩
              rw [HL.out]
              have hS2 : w'.cell? ⟨kc, 0, none⟩ = some (.string xs[d].ctors[j].name) := (hB'.cell klt).trans k0
              dsimp only
              refine hK.out _ _ hS2 (fun _ => trivial) ?_
              clear hK K
              (try simp only [Act.put, List.getElem_toArray, List.getElem_cons_zero, List.getElem_cons_succ, List.setIfInBounds_toArray, List.set_cons_zero, List.set_cons_succ])
              refine wpAnyB_ready (rs := [4]) (by kernel_rfl) (by simp) ?_
              refine AllReadyB.cons rfl (fun K hK => ?_) AllReadyB.nil
              go_simp
              refine hK.out _ _ hS2 (fun _ => trivial) ?_
              clear hK K
              (try simp only [Act.put, List.getElem_toArray, List.getElem_cons_zero, List.getElem_cons_succ, List.setIfInBounds_toArray, List.set_cons_zero, List.set_cons_succ])
              refine wpAnyB_take (i := 5) (v := ?_) rfl (by decide) (by kernel_rfl) (by kernel_rfl) (by kernel_rfl) (fun _ _ _ h => h) (Or.inl ⟨by rfl, ?hy5⟩) hS2 (fun _ => hT1) ?_
              case hy5 => (intro W hSw; (try dsimp only at hSw); go_simp; try with_reducible rfl)
              (try simp only [Act.put, List.getElem_toArray, List.getElem_cons_zero, List.getElem_cons_succ, List.setIfInBounds_toArray, List.set_cons_zero, List.set_cons_succ])
              refine wpAnyB_end (by kernel_rfl) ?_
              have hB7 : Below wq2.heap.size wq2 w' := hB3.drew.trans (hB'.mono hB3.size)
              have m2 : w'.cell? ⟨kc, 2, none⟩ = some (.int .i64 xs[d].ctors[j].idx) := (hB'.cell klt).trans k2
              have hBq7 : Below wq.heap.size wq w' := hBq2.trans (hB7.mono hBq2.size)
              have HO7 : Hid (Own w' wq.heap.size 9 1 StrR (ktsB xs xs[d].ctors j) u6 []) := HOK2.out.below (fun x cs G hk h => StrR_mono _ _ x cs G hk h) hB7
              have hlm := ktsB_len xs xs[d].ctors j
              have hmx : (ktsB xs xs[d].ctors j).length + 1 ≤ maxLen := by unfold maxLen; omega
              have hby : ((ktsB xs xs[d].ctors j).length + 1) * 16 ≤ 140737488355328 := by omega
              have HSU := Lib.hid (ktsB_succ xs xs[d].ctors j hjl)
              obtain ⟨kA, kcap, hkv, -, -⟩ := HO7.out.form
              subst hkv
              have HKT : Hid (ktB xs xs[d].ctors[j] = bs (tl xs[d].ctors[j].name ++ (listedT (xs[d].ctors[j].args.map (tyB xs)) ++ endT xs[d].ctors[j]))) := by unfold Hid ktB; rw [ktT_listed]
              clear hS1 hT1 hS2 k0 k2 hB3 hB' hBw3 hBw5 c1 c2 c3 HAR HARd HUA HUAd HJL HRW
              cases q1 : decide (xs[d].ctors[j].idx > 0) with
              | false =>
                have hkt : ktB xs xs[d].ctors[j] = xs[d].ctors[j].name ++ L := by
                  rw [HKT.out, ← HL.out, show endT xs[d].ctors[j] = [] from if_neg (by simpa using q1), List.append_nil, ← bs_append, bs_tl]
                have HK2 := Lib.hid hkt
                clear hkt
                have hbsq : wq.heap.size ≤ w'.heap.size := hBq7.size
                go_wp2_with (at_builtin; refine Halt.mk ?_)
                refine Halt.of (wpList_push1 (P := Tryd.prog) rfl _ _ 51 rfl i0 _ 16 Tryd.underlying51 HI.out HZ0.out HZ1.out HZ2.out rfl Nat.zero_lt_one StrR_len StrR_mono (by rfl) HO7.out (xs[d].ctors[j].name ++ L) 9 [.string (xs[d].ctors[j].name ++ L)] [] _ (by rfl) rfl (by simp [Value.oneCell']) ⟨rfl, rfl⟩ (Under.nil _) (fun _ _ h => by cases h) hmx hby hbsq ?_)
                intro g cp w8 hown8 hgr8 hat8
                have hrow := HO7.out.row
                have hB8 : Below wq.heap.size wq w8 := (hBq7.alloc hBq7.size _).grown hgr8 (by simp; omega) (fun g hg => (hrow g (mem_rowOf.2 hg)).1)
                have HO8 := Lib.hid hown8
                clear hown8 hgr8 hat8 hrow
                go_wp2
                go_roundw
                case rel => exact ⟨j + 1, hjl, by go_num, by rw [HSU.out, HK2.out]; exact HO8.out, hB8⟩
                case measure => (simp [intOf] <;> omega)
              | true =>
                obtain ⟨n, hn⟩ : ∃ n : Nat, xs[d].ctors[j].idx = (n : Int) := ⟨xs[d].ctors[j].idx.toNat, by have := HKO.out.lo; omega⟩
                have hn10 : n < 10 := by have := HKO.out.hi; omega
                have hkt : ktB xs xs[d].ctors[j] = (xs[d].ctors[j].name ++ L) ++ (bs [58] ++ bs (digT (n : Int))) := by
                  rw [HKT.out, ← HL.out, show endT xs[d].ctors[j] = 58 :: digT xs[d].ctors[j].idx from if_pos (by simpa using q1), hn, bs_append, ← bs_tl xs[d].ctors[j].name, bs_append, bs_append, tl_bs, List.append_assoc]
                  rfl
                have HK2 := Lib.hid hkt
                have q2 : decide ((n : Int) > 0) = true := by rw [← hn]; exact q1
                have q3 : decide (0 < n) = true := by simpa using q2
                rw [hn] at m2
                clear hkt hn q1
                have hds : (bs (digT (n : Int))).size = 1 := by rfl
                have hes : (xs[d].ctors[j].name ++ L).size ≤ 25 := by rw [ByteArray.size_append]; omega
                have c4 : 1 + (bs (digT (n : Int))).size ≤ 9223372036854775807 := by omega
                have c5 : ¬ 9223372036854775807 < 1 + (bs (digT (n : Int))).size := by omega
                have c6 : xs[d].ctors[j].name.size + L.size + (1 + (bs (digT (n : Int))).size) ≤ 9223372036854775807 := by omega
                have c7 : ¬ 9223372036854775807 < xs[d].ctors[j].name.size + L.size + (1 + (bs (digT (n : Int))).size) := by omega
                clear hds hes
                go_wp2_with fail
                refine (strconv_Itoa n hn10 w').mono ?_
                rintro e w9 ⟨rfl, hb9⟩
                have hBq9 : Below wq.heap.size wq w9 := hBq7.trans (hb9.mono hBq7.size)
                have HO9 : Hid (Own w9 wq.heap.size 9 1 StrR (ktsB xs xs[d].ctors j) (.slice kA (ktsB xs xs[d].ctors j).length kcap) []) := HO7.out.below (fun x cs G hk h => StrR_mono _ _ x cs G hk h) hb9
                have hbsq : wq.heap.size ≤ w9.heap.size := hBq9.size
                go_wp2_with (at_builtin; refine Halt.mk ?_)
                refine Halt.of (wpList_push1 (P := Tryd.prog) rfl _ _ 51 rfl i0 _ 16 Tryd.underlying51 HI.out HZ0.out HZ1.out HZ2.out rfl Nat.zero_lt_one StrR_len StrR_mono (by rfl) HO9.out ((xs[d].ctors[j].name ++ L) ++ (bs [58] ++ bs (digT (n : Int)))) 9 [.string ((xs[d].ctors[j].name ++ L) ++ (bs [58] ++ bs (digT (n : Int))))] [] _ (by rfl) rfl (by simp [Value.oneCell']) ⟨rfl, rfl⟩ (Under.nil _) (fun _ _ h => by cases h) hmx hby hbsq ?_)
                intro g cp w8 hown8 hgr8 hat8
                have hrow := HO9.out.row
                have hB8 : Below wq.heap.size wq w8 := (hBq9.alloc hBq9.size _).grown hgr8 (by simp; omega) (fun g hg => (hrow g (mem_rowOf.2 hg)).1)
                have HO8 := Lib.hid hown8
                clear hown8 hgr8 hat8 hrow
                go_wp2
                go_roundw
                case rel => exact ⟨j + 1, hjl, by go_num, by rw [HSU.out, HK2.out]; exact HO8.out, hB8⟩
                case measure => (simp [intOf] <;> omega)
        · have e2 : decide (j < xs[d].ctors.length) = false := by simpa using hjl
          have hta : ktsB xs xs[d].ctors j = xs[d].ctors.map (ktB xs) := ktsB_all _ _ (by omega)
          have HAR : Hid (Arr wr (StrR wr) (xs[d].ctors.map (ktB xs)) u6 (if ktsB xs xs[d].ctors j = [] then [] else rowOf u6 ++ [])) := by rw [← hta]; exact HOK.out.arr
          have HRW := Lib.hid HOK.out.row
          have HUA : Hid (Under wr.heap.size (if ktsB xs xs[d].ctors j = [] then [] else rowOf u6 ++ [])) := fun b hb => by
            split at hb
            · cases hb
            · rw [List.append_nil] at hb; exact (HRW.out b hb).2
          generalize (if ktsB xs xs[d].ctors j = [] then [] else rowOf u6 ++ []) = FA at HAR HUA
          have k0 : wr.cell? ⟨kd, 0, none⟩ = some (.string xs[d].name) := (hB2.cell KD.out.lt).trans ((KD.out.cell 0).trans (by simp))
          have klt : kd < wr.heap.size := Nat.lt_of_lt_of_le KD.out.lt hB2.size
          have hdo := HW.out.at hd
          have hns : xs[d].name.size = 1 := dname_len hdo.name
          have hjn : (Lib.join ((xs[d].ctors.map (ktB xs)).map tl) [124]).length ≤ 100 := by
            rw [ktsT_join]
            have h1 := ktsT_len HW.out xs[d].ctors true hdo.all
            have h2 := hdo.hi
            omega
          have HJL : Hid ((Lib.join ((xs[d].ctors.map (ktB xs)).map tl) (tl ⟨#[124]⟩)).length ≤ 1000000) := by
            have h : tl ⟨#[124]⟩ = [124] := rfl
            unfold Hid; rw [h]; omega
          have hal : (xs[d].ctors.map (ktB xs)).length ≤ 1000 := by rw [List.length_map]; have := hdo.hi; omega
          have hll : (bs (Lib.join ((xs[d].ctors.map (ktB xs)).map tl) [124])).size ≤ 100 := by rw [bs_size]; exact hjn
          have hdt : dtB xs xs[d] = (xs[d].name ++ bs [61]) ++ bs (Lib.join ((xs[d].ctors.map (ktB xs)).map tl) [124]) := by
            unfold dtB; rw [← dtT_kts, ← bs_tl xs[d].name, bs_append, bs_append, tl_bs, List.append_assoc]; rfl
          obtain ⟨L, hL⟩ : ∃ l, bs (Lib.join ((xs[d].ctors.map (ktB xs)).map tl) [124]) = l := ⟨_, rfl⟩
          rw [hL] at hll hdt
          have HL := Lib.hid hL
          have HDT := Lib.hid hdt
          clear hL hta HOK hdo hjn hdt
          have c1 : xs[d].name.size + 1 ≤ 9223372036854775807 := by omega
          have c2 : ¬ 9223372036854775807 < xs[d].name.size + 1 := by omega
          have c3 : xs[d].name.size + 1 + L.size ≤ 9223372036854775807 := by omega
          have c4 : ¬ 9223372036854775807 < xs[d].name.size + 1 + L.size := by omega
          clear hns
          have hlm := dtsB_len xs d
          have hmx : (dtsB xs d).length + 1 ≤ maxLen := by unfold maxLen; omega
          have hby : ((dtsB xs d).length + 1) * 16 ≤ 140737488355328 := by omega
          have HSU := Lib.hid (dtsB_succ xs d hd)
          have HOD1 : Hid (Own wr.drew w.heap.size 9 1 StrR (dtsB xs d) u3 []) := HODq.out.below (fun x cs G hk h => StrR_mono _ _ x cs G hk h) hB2.drew
          have hBd : Below w.heap.size w wr.drew := hBw1.drew
          have HUAd : Hid (Under wr.drew.heap.size FA) := HUA.out
          have HARd : Hid (Arr wr.drew (StrR wr.drew) (xs[d].ctors.map (ktB xs)) u6 FA) := ArrStr.mono HAR.out (fun _ _ => rfl)
          go_wp2_with fail
          refine wp_region_B (S := fun w' => w'.cell? ⟨kd, 0, none⟩ = some (.string xs[d].name)) (T := fun _ => True) (d := 99) (by kernel_rfl) ?_
          have hS1 : wr.drew.cell? ⟨kd, 0, none⟩ = some (.string xs[d].name) := k0
          have hT1 : True := trivial
          refine wpAnyB_take (i := 0) (v := ?_) rfl (by decide) (by kernel_rfl) (by kernel_rfl) (by kernel_rfl) (fun _ _ _ h => h) (Or.inl ⟨by rfl, ?hy0⟩) hS1 (fun _ => hT1) ?_
          case hy0 => (intro W hSw; (try dsimp only at hSw); go_simp; try with_reducible rfl)
          (try simp only [Act.put, List.getElem_toArray, List.getElem_cons_zero, List.getElem_cons_succ, List.setIfInBounds_toArray, List.set_cons_zero, List.set_cons_succ])
          refine wpAnyB_take (i := 1) (v := ?_) rfl (by decide) (by kernel_rfl) (by kernel_rfl) (by kernel_rfl) (fun _ _ _ h => h) (Or.inl ⟨by rfl, ?hy1⟩) hS1 (fun _ => hT1) ?_
          case hy1 => (intro W hSw; (try dsimp only at hSw); go_simp; try with_reducible rfl)
          (try simp only [Act.put, List.getElem_toArray, List.getElem_cons_zero, List.getElem_cons_succ, List.setIfInBounds_toArray, List.set_cons_zero, List.set_cons_succ])
          refine wpAnyB_take (i := 2) (v := ?_) rfl (by decide) (by kernel_rfl) (by kernel_rfl) (by kernel_rfl) (fun _ _ _ h => h) (Or.inl ⟨by rfl, ?hy2⟩) hS1 (fun _ => hT1) ?_
          case hy2 => (intro W hSw; (try dsimp only at hSw); go_simp; try with_reducible rfl)
          (try simp only [Act.put, List.getElem_toArray, List.getElem_cons_zero, List.getElem_cons_succ, List.setIfInBounds_toArray, List.set_cons_zero, List.set_cons_succ])
          refine wpAnyB_take (i := 3) (v := ?_) rfl (by decide) (by kernel_rfl) (by kernel_rfl) (by kernel_rfl) (fun _ _ _ h => h) (Or.inl ⟨by rfl, ?hy3⟩) hS1 (fun _ => hT1) ?_
          case hy3 => (intro W hSw; (try dsimp only at hSw); go_simp; try with_reducible rfl)
          (try simp only [Act.put, List.getElem_toArray, List.getElem_cons_zero, List.getElem_cons_succ, List.setIfInBounds_toArray, List.set_cons_zero, List.set_cons_succ])
          refine wpAnyB_take (i := 4) (v := ?_) rfl (by decide) (by kernel_rfl) (by kernel_rfl) (by kernel_rfl) (fun _ _ _ h => h) (Or.inl ⟨by rfl, ?hy4⟩) hS1 (fun _ => hT1) ?_
          case hy4 => (intro W hSw; (try dsimp only at hSw); go_simp; try with_reducible rfl)
          (try simp only [Act.put, List.getElem_toArray, List.getElem_cons_zero, List.getElem_cons_succ, List.setIfInBounds_toArray, List.set_cons_zero, List.set_cons_succ])
          refine wpAnyB_ready (rs := [5]) (by kernel_rfl) (by simp) ?_
          refine AllReadyB.cons rfl (fun K hK => ?_) AllReadyB.nil
          go_simp
          go_at_call 51
          with_reducible refine (join_call (xs[d].ctors.map (ktB xs)) ⟨#[124]⟩ hal HJL.out wr.drew _ FA HARd.out HUAd.out).mono ?_
          rintro e w' ⟨rfl, hB'⟩
          rw [show bs (Lib.join ((xs[d].ctors.map (ktB xs)).map tl) (tl ⟨#[124]⟩)) = L from HL.out]
          have hS2 : w'.cell? ⟨kd, 0, none⟩ = some (.string xs[d].name) := (hB'.cell klt).trans k0
          have HOD2 : Hid (Own w' w.heap.size 9 1 StrR (dtsB xs d) u3 []) := HOD1.out.below (fun x cs G hk h => StrR_mono _ _ x cs G hk h) hB'
          have hBd2 : Below w.heap.size w w' := hBd.trans (hB'.mono hBd.size)
          have hbsd : w.heap.size ≤ w'.heap.size := hBd2.size
          have klt2 : kd < w'.heap.size := Nat.lt_of_lt_of_le klt hB'.size
          obtain ⟨dA, dcap, hdv, -, -⟩ := HOD2.out.form
          subst hdv
          dsimp only
          refine hK.out _ _ hS2 (fun _ => trivial) ?_
          clear hK K
          (try simp only [Act.put, List.getElem_toArray, List.getElem_cons_zero, List.getElem_cons_succ, List.setIfInBounds_toArray, List.set_cons_zero, List.set_cons_succ])
          refine wpAnyB_ready (rs := [6]) (by kernel_rfl) (by simp) ?_
          refine AllReadyB.cons rfl (fun K hK => ?_) AllReadyB.nil
          go_simp
          refine hK.out _ _ hS2 (fun _ => trivial) ?_
          clear hK K
          (try simp only [Act.put, List.getElem_toArray, List.getElem_cons_zero, List.getElem_cons_succ, List.setIfInBounds_toArray, List.set_cons_zero, List.set_cons_succ])
          refine wpAnyB_ready (rs := [7]) (by kernel_rfl) (by simp) ?_
          refine AllReadyB.cons rfl (fun K hK => ?_) AllReadyB.nil
          go_simp
          refine hK.out _ _ ((World.cell?_alloc_lt _ _ _ klt2).trans hS2) (fun _ => trivial) ?_
          clear hK K
          (try simp only [Act.put, List.getElem_toArray, List.getElem_cons_zero, List.getElem_cons_succ, List.setIfInBounds_toArray, List.set_cons_zero, List.set_cons_succ])
          refine wpAnyB_ready (rs := [8]) (by kernel_rfl) (by simp) ?_
          refine AllReadyB.cons rfl (fun K hK => ?_) AllReadyB.nil
          refine step_push1 (P := Tryd.prog) rfl _ _ 51 rfl i0 _ 16 Tryd.underlying51 HI.out HZ0.out HZ1.out HZ2.out rfl Nat.zero_lt_one StrR_len StrR_mono (by rfl) HOD2.out ((xs[d].name ++ bs [61]) ++ L) 9 [.string ((xs[d].name ++ bs [61]) ++ L)] [] _ (by rfl) rfl (by simp [Value.oneCell']) ⟨rfl, rfl⟩ (Under.nil _) (fun _ _ h => by cases h) hmx hby hbsd ?_
          intro g cp w8 hown8 hgr8 hat8
          have hrow := HOD2.out.row
          have l7 : w'.heap.size ≤ (w'.alloc (.cells #[.string ((xs[d].name ++ bs [61]) ++ L)] 9)).heap.size := by rw [World.size_alloc]; exact Nat.le_succ _
          have hB8 : Below w.heap.size w w8 := (hBd2.alloc hbsd _).grown hgr8 (by simp; omega) (fun g hg => (hrow g (mem_rowOf.2 hg)).1)
          have hkn : some kd ≠ (Value.slice dA (dtsB xs d).length dcap).ownBlock := fun e => HKN.out (mem_rowOf.2 e.symm)
          have s8 : w8.cell? ⟨kd, 0, none⟩ = some (.string xs[d].name) := (World.grownBy.cell_far hgr8 ⟨kd, 0, none⟩ (Nat.lt_of_lt_of_le klt2 l7) hkn).trans ((World.cell?_alloc_lt _ _ _ klt2).trans hS2)
          have HO8 := Lib.hid hown8
          refine hK.out _ _ s8 (fun _ => trivial) ?_
          clear hK K
          (try simp only [Act.put, List.getElem_toArray, List.getElem_cons_zero, List.getElem_cons_succ, List.setIfInBounds_toArray, List.set_cons_zero, List.set_cons_succ])
          refine wpAnyB_take (i := 9) (v := ?_) rfl (by decide) (by kernel_rfl) (by kernel_rfl) (by kernel_rfl) (fun _ _ _ h => h) (Or.inl ⟨by rfl, ?hy9⟩) s8 (fun _ => hT1) ?_
          case hy9 => (intro W hSw; (try dsimp only at hSw); go_simp; try with_reducible rfl)
          (try simp only [Act.put, List.getElem_toArray, List.getElem_cons_zero, List.getElem_cons_succ, List.setIfInBounds_toArray, List.set_cons_zero, List.set_cons_succ])
          refine wpAnyB_end (by kernel_rfl) ?_
          clear hS1 hT1 hS2 s8 k0 hown8 hgr8 hat8 hrow l7 hkn c1 c2 c3 c4 HAR HARd HUA HUAd HJL HRW hB2 hB' hBd hBd2
          go_wp2
          go_roundw
          case rel => exact ⟨d + 1, hd, by go_num, by rw [HSU.out, HDT.out]; exact HO8.out, hB8⟩
          case measure => (simp [intOf] <;> omega)
    · have e1 : decide (d < xs.length) = false := by simpa using hd
      have hta : dtsB xs d = xs.map (dtB xs) := dtsB_all _ (by omega)
      have HAR : Hid (Arr wr (StrR wr) (xs.map (dtB xs)) u3 (if dtsB xs d = [] then [] else rowOf u3 ++ [])) := by rw [← hta]; exact HOD.out.arr
      have HRW := Lib.hid HOD.out.row
      have HUA : Hid (Under wr.heap.size (if dtsB xs d = [] then [] else rowOf u3 ++ [])) := fun b hb => by
        split at hb
        · cases hb
        · rw [List.append_nil] at hb; exact (HRW.out b hb).2
      generalize (if dtsB xs d = [] then [] else rowOf u3 ++ []) = FA at HAR HUA
      have hal : (xs.map (dtB xs)).length ≤ 1000 := by rw [List.length_map]; omega
      have hjn : Lib.join ((xs.map (dtB xs)).map tl) [59] = textT xs := textT_join xs xs
      have HJN := Lib.hid hjn
      have HJL : Hid ((Lib.join ((xs.map (dtB xs)).map tl) (tl ⟨#[59]⟩)).length ≤ 1000000) := by
        have h : tl ⟨#[59]⟩ = [59] := rfl
        unfold Hid; rw [h, hjn]; have := textT_len HW.out; omega
      clear hta HOD hjn
      go_wp2_with fail
      refine (join_call (xs.map (dtB xs)) ⟨#[59]⟩ hal HJL.out wr _ FA HAR.out HUA.out).mono ?_
      rintro e w' ⟨rfl, hB'⟩
      rw [show Lib.join ((xs.map (dtB xs)).map tl) (tl ⟨#[59]⟩) = textT xs from HJN.out]
      have hB2 := hB.trans (hB'.mono hB.size)
      go_wp2
      go_ret
      exact ⟨rfl, hB2⟩

/-- the text of a world, empty where it is none -/
def fmtW (xs : List Dt) : ByteArray := if worldOk xs = true then bs (textT xs) else ⟨#[]⟩
set_option maxRecDepth 100000 in
set_option maxHeartbeats 1600000 in
theorem impl_FormatWorld (xs : List Dt) (w : World) (v : Value) (F : List Nat) (hx : Arr w (DtR w) xs v F) (hf : Under w.heap.size F) :
    Calls Tryd.prog 11 #[v] w fun e w' => e = .returned (.string (fmtW xs)) ∧ Below w.heap.size w w' := by
  obtain ⟨A, cap, rfl, hc1, hc2⟩ := hx.form
  have HX := Lib.hid hx
  have HF := Lib.hid hf
  clear hx hf
  go_enter Tryd.func11, Tryd.ntmps11
  go_wp2_with fail
  refine (impl_WorldValid xs w _ F HX.out HF.out).mono ?_
  rintro e w1 ⟨rfl, hb1⟩
  cases q0 : worldOk xs with
  | false =>
    have hf : Hid (fmtW xs = ⟨#[]⟩) := if_neg (by simp [q0])
    clear q0
    go_wp2
    go_ret
    exact ⟨ret_str hf.out.symm, hb1⟩
  | true =>
    have hf : Hid (fmtW xs = bs (textT xs)) := if_pos q0
    have HW := Lib.hid (worldOK q0)
    clear q0
    go_wp2_with fail
    refine (impl_worldText xs HW.out w1 _ F (ArrDt.below HX.out hb1 HF.out) (HF.out.mono hb1.size)).mono ?_
    rintro e w2 ⟨rfl, hb2⟩
    have hB2 := hb1.trans (hb2.mono hb1.size)
    go_wp2
    go_ret
    exact ⟨ret_str hf.out.symm, hB2⟩
end Go.Proofs.YtcknbkbejifhcaaDoor

namespace Go.Proofs.YtcknbkbejifhcaaDoor
open Go.RowKit

set_option maxRecDepth 100000 in
set_option maxHeartbeats 1600000 in
theorem spec_l1Text (xs : List Dt) (hw : WorldOK xs) (w : World) (v : Value) (F : List Nat) (hx : Arr w (DtR w) xs v F) (hf : Under w.heap.size F) :
    Calls Tryd.prog 45 #[v] w fun e w' => e = .returned (.string (bs (textT xs))) ∧ Below w.heap.size w w' := by
  obtain ⟨A, cap, rfl, hc1, hc2⟩ := hx.form
  have hxl := hw.len
  have HW := Lib.hid hw
  have HX := Lib.hid hx
  have HF := Lib.hid hf
  clear hx hf
  clear hw
  go_enter Tryd.func45, Tryd.ntmps45
  go_wp2
  go_loopw [3, 4] (fun ov dv wr => ∃ d : Nat, ∃ out : ByteArray, d ≤ xs.length ∧ dv = .int .i64 d ∧ ov = .string out ∧ out.size ≤ 100 * d ∧ Hid (textT xs = tl out ++ dtsT xs (decide (d = 0)) (xs.drop d)) ∧ Below w.heap.size w wr) (fun _ dv _ => xs.length - (intOf dv).toNat)
  case atStart => exact ⟨0, ⟨#[]⟩, Nat.zero_le _, rfl, rfl, Nat.zero_le _, rfl, Below.refl _ _⟩
  case round =>
    obtain ⟨d, out, hd, rfl, rfl, hos, HT, hB⟩ := hrel
    by_cases hdl : d < xs.length
    · obtain ⟨b, off, rfl⟩ := HX.out.ptr (by omega)
      have hd2 := hdl
      have g1 : (0 : Int) ≤ (d : Int) := by omega
      have g2 : (d : Int) < (xs.length : Int) := by omega
      have t1 : decide ((d : Int) < (xs.length : Int)) = true := decide_eq_true g2
      have hcl4 := (HW.out.at hdl).hi
      have hns : xs[d].name.size = 1 := dname_len (HW.out.at hdl).name
      obtain ⟨A1, cap1, G1, hb, c0, c1, HK, HG, -, hn1, hn2⟩ := ArrDt.at HX.out HF.out hB d hdl
      have hst := HT.out
      rw [dtsT_step xs _ _ d hdl] at hst
      by_cases hdp : 0 < d
      · have t2 : decide ((d : Int) > 0) = true := decide_eq_true (by omega)
        have hd0 : decide (d = 0) = false := by exact decide_eq_false (by omega)
        rw [hd0, if_neg (by simp)] at hst
        have hst2 : textT xs = tl (out ++ ⟨#[59]⟩ ++ xs[d].name ++ ⟨#[61]⟩) ++ (ktsT xs true xs[d].ctors ++ dtsT xs false (xs.drop (d + 1))) := by
          rw [hst, tl_append, tl_append, tl_append]
          show tl out ++ ([59] ++ (tl _ ++ ([61] ++ _))) = (tl out ++ [59]) ++ tl _ ++ [61] ++ _
          simp only [List.append_assoc, List.nil_append]
          rfl
        have HST := Lib.hid hst2
        have hs2 : (out ++ ⟨#[59]⟩ ++ xs[d].name ++ ⟨#[61]⟩).size ≤ 100 * d + 3 := by rw [size_append, size_append, size_append]; show out.size + 1 + _ + 1 ≤ _; omega
        have HS2 := Lib.hid hs2
        have hc1 : out.size + 1 ≤ 9223372036854775807 := by omega
        have hc2 : out.size + xs[d].name.size ≤ 9223372036854775807 := by omega
        have hc3 : out.size + 1 + xs[d].name.size ≤ 9223372036854775807 := by omega
        have hc4 : out.size + xs[d].name.size + 1 ≤ 9223372036854775807 := by omega
        have hc5 : out.size + 1 + xs[d].name.size + 1 ≤ 9223372036854775807 := by omega
        clear hst hst2 hs2 hd0
        go_wp2
        obtain ⟨wo, hwo⟩ : ∃ wo, wo = wr := ⟨_, rfl⟩
        rw [← hwo] at hB c0 c1 hb ⊢
        clear hwo
        go_loopw [3, 5] (fun ov kv wr => ∃ k : Nat, ∃ out : ByteArray, k ≤ xs[d].ctors.length ∧ kv = .int .i64 k ∧ ov = .string out ∧ out.size ≤ 100 * d + 3 + 18 * k ∧ Hid (textT xs = tl out ++ (ktsT xs (decide (k = 0)) (xs[d].ctors.drop k) ++ dtsT xs false (xs.drop (d + 1)))) ∧ Below w.heap.size w wr) (fun _ kv _ => xs[d].ctors.length - (intOf kv).toNat)
        case atStart => exact ⟨0, _, Nat.zero_le _, rfl, rfl, HS2.out, HST.out, hB⟩
        case round =>
          clear hB c0 c1 hb HST HS2 hos hns hc1 hc2 hc3 hc4 hc5 t1
          obtain ⟨k, out, hk, rfl, rfl, hos, HT, hB⟩ := hrel
          obtain ⟨A1, cap1, G1, hb, c0, c1, HK, HG, -, hn1, hn2⟩ := ArrDt.at HX.out HF.out hB d hdl
          by_cases hkl : k < xs[d].ctors.length
          · obtain ⟨b2, off2, rfl⟩ := HK.out.ptr (by omega)
            obtain ⟨A3, cap3, G3, hb3, k0, k1, k2, HK3, HG3, -, hn3, hn4⟩ := ArrKt.rep HK.out HG.out hB k hkl
            have g3 : (0 : Int) ≤ (k : Int) := by omega
            have g4 : (k : Int) < (xs[d].ctors.length : Int) := by omega
            have hst := HT.out
            rw [ktsT_step xs _ _ k hkl] at hst
            have HKO : Hid (KtOk xs.length xs[d].ctors[k]) := HW.out.ctor hd2 hkl
            have hkt : (bs (ktT xs xs[d].ctors[k])).size ≤ 17 := ktT_len HW.out HKO.out
            have hc1 : out.size + 1 ≤ 9223372036854775807 := by omega
            have hc2 : out.size + (bs (ktT xs xs[d].ctors[k])).size ≤ 9223372036854775807 := by omega
            have hc3 : out.size + 1 + (bs (ktT xs xs[d].ctors[k])).size ≤ 9223372036854775807 := by omega
            by_cases hkp : 0 < k
            · have t3 : decide ((k : Int) > 0) = true := decide_eq_true (by omega)
              have hk0 : decide (k = 0) = false := by exact decide_eq_false (by omega)
              rw [hk0, if_neg (by simp)] at hst
              have hst2 : textT xs = tl (out ++ ⟨#[124]⟩ ++ bs (ktT xs xs[d].ctors[k])) ++ (ktsT xs (decide (k + 1 = 0)) (xs[d].ctors.drop (k + 1)) ++ dtsT xs false (xs.drop (d + 1))) := by
                rw [hst, tl_append, tl_append, tl_bs, decide_eq_false (show ¬ (k + 1 = 0) by omega)]
                show tl out ++ (([124] ++ (_ ++ _)) ++ _) = (tl out ++ [124]) ++ _ ++ _
                simp only [List.append_assoc, List.nil_append]
              have HST := Lib.hid hst2
              have hs2 : (out ++ ⟨#[124]⟩ ++ bs (ktT xs xs[d].ctors[k])).size ≤ 100 * d + 3 + 18 * (k + 1) := by rw [size_append, size_append]; show out.size + 1 + _ ≤ _; omega
              have HS2 := Lib.hid hs2
              clear hst hst2 hs2 hk0
              go_wp2_with fail
              refine (spec_l1CtorText xs HW.out xs[d].ctors[k] HKO.out wr _ F (ArrDt.below HX.out hB HF.out) (HF.out.mono hB.size) _ _ G3 (HK3.out.below hB HG3.out) (HG3.out.mono hB.size)).mono ?_
              rintro e w' ⟨rfl, hB'⟩
              have hB3 := hB.trans (hB'.mono hB.size)
              clear k0 k1 k2 c0 c1
              go_wp2
              go_roundw
              case rel => exact ⟨k + 1, _, by omega, by go_num, rfl, HS2.out, HST, hB3⟩
              case measure => (simp [intOf] <;> omega)
            · have t3 : decide ((k : Int) > 0) = false := decide_eq_false (by omega)
              have hk0 : decide (k = 0) = true := by exact decide_eq_true (by omega)
              rw [hk0, if_pos rfl] at hst
              have hst2 : textT xs = tl (out ++ bs (ktT xs xs[d].ctors[k])) ++ (ktsT xs (decide (k + 1 = 0)) (xs[d].ctors.drop (k + 1)) ++ dtsT xs false (xs.drop (d + 1))) := by
                rw [hst, tl_append, tl_bs, decide_eq_false (show ¬ (k + 1 = 0) by omega)]
                show tl out ++ (([] ++ (_ ++ _)) ++ _) = tl out ++ _ ++ _
                simp only [List.append_assoc, List.nil_append]
              have HST := Lib.hid hst2
              have hs2 : (out ++ bs (ktT xs xs[d].ctors[k])).size ≤ 100 * d + 3 + 18 * (k + 1) := by rw [size_append]; omega
              have HS2 := Lib.hid hs2
              clear hst hst2 hs2 hk0
              go_wp2_with fail
              refine (spec_l1CtorText xs HW.out xs[d].ctors[k] HKO.out wr _ F (ArrDt.below HX.out hB HF.out) (HF.out.mono hB.size) _ _ G3 (HK3.out.below hB HG3.out) (HG3.out.mono hB.size)).mono ?_
              rintro e w' ⟨rfl, hB'⟩
              have hB3 := hB.trans (hB'.mono hB.size)
              clear k0 k1 k2 c0 c1
              go_wp2
              go_roundw
              case rel => exact ⟨k + 1, _, by omega, by go_num, rfl, HS2.out, HST, hB3⟩
              case measure => (simp [intOf] <;> omega)
          · have hst := HT.out
            rw [List.drop_of_length_le (by omega), ktsT, List.nil_append] at hst
            have hdn : decide (d + 1 = 0) = false := decide_eq_false (by omega)
            have HST : Hid (textT xs = tl out ++ dtsT xs (decide (d + 1 = 0)) (xs.drop (d + 1))) := by rw [hdn]; exact hst
            have hos2 : out.size ≤ 100 * (d + 1) := by omega
            clear hst hdn
            go_wp2
            go_roundw
            case rel => exact ⟨d + 1, out, by omega, by go_num, rfl, hos2, HST, hB⟩
            case measure => (simp [intOf] <;> omega)
      · have t2 : decide ((d : Int) > 0) = false := decide_eq_false (by omega)
        have hd0 : decide (d = 0) = true := by exact decide_eq_true (by omega)
        rw [hd0, if_pos rfl] at hst
        have hst2 : textT xs = tl (out ++ xs[d].name ++ ⟨#[61]⟩) ++ (ktsT xs true xs[d].ctors ++ dtsT xs false (xs.drop (d + 1))) := by
          rw [hst, tl_append, tl_append]
          show tl out ++ ([] ++ (tl _ ++ ([61] ++ _))) = tl out ++ tl _ ++ [61] ++ _
          simp only [List.append_assoc, List.nil_append]
          rfl
        have HST := Lib.hid hst2
        have hs2 : (out ++ xs[d].name ++ ⟨#[61]⟩).size ≤ 100 * d + 3 := by rw [size_append, size_append]; show out.size + _ + 1 ≤ _; omega
        have HS2 := Lib.hid hs2
        have hc1 : out.size + 1 ≤ 9223372036854775807 := by omega
        have hc2 : out.size + xs[d].name.size ≤ 9223372036854775807 := by omega
        have hc3 : out.size + 1 + xs[d].name.size ≤ 9223372036854775807 := by omega
        have hc4 : out.size + xs[d].name.size + 1 ≤ 9223372036854775807 := by omega
        have hc5 : out.size + 1 + xs[d].name.size + 1 ≤ 9223372036854775807 := by omega
        clear hst hst2 hs2 hd0
        go_wp2
        obtain ⟨wo, hwo⟩ : ∃ wo, wo = wr := ⟨_, rfl⟩
        rw [← hwo] at hB c0 c1 hb ⊢
        clear hwo
        go_loopw [3, 5] (fun ov kv wr => ∃ k : Nat, ∃ out : ByteArray, k ≤ xs[d].ctors.length ∧ kv = .int .i64 k ∧ ov = .string out ∧ out.size ≤ 100 * d + 3 + 18 * k ∧ Hid (textT xs = tl out ++ (ktsT xs (decide (k = 0)) (xs[d].ctors.drop k) ++ dtsT xs false (xs.drop (d + 1)))) ∧ Below w.heap.size w wr) (fun _ kv _ => xs[d].ctors.length - (intOf kv).toNat)
        case atStart => exact ⟨0, _, Nat.zero_le _, rfl, rfl, HS2.out, HST.out, hB⟩
        case round =>
          clear hB c0 c1 hb HST HS2 hos hns hc1 hc2 hc3 hc4 hc5 t1
          obtain ⟨k, out, hk, rfl, rfl, hos, HT, hB⟩ := hrel
          obtain ⟨A1, cap1, G1, hb, c0, c1, HK, HG, -, hn1, hn2⟩ := ArrDt.at HX.out HF.out hB d hdl
          by_cases hkl : k < xs[d].ctors.length
          · obtain ⟨b2, off2, rfl⟩ := HK.out.ptr (by omega)
            obtain ⟨A3, cap3, G3, hb3, k0, k1, k2, HK3, HG3, -, hn3, hn4⟩ := ArrKt.rep HK.out HG.out hB k hkl
            have g3 : (0 : Int) ≤ (k : Int) := by omega
            have g4 : (k : Int) < (xs[d].ctors.length : Int) := by omega
            have hst := HT.out
            rw [ktsT_step xs _ _ k hkl] at hst
            have HKO : Hid (KtOk xs.length xs[d].ctors[k]) := HW.out.ctor hd2 hkl
            have hkt : (bs (ktT xs xs[d].ctors[k])).size ≤ 17 := ktT_len HW.out HKO.out
            have hc1 : out.size + 1 ≤ 9223372036854775807 := by omega
            have hc2 : out.size + (bs (ktT xs xs[d].ctors[k])).size ≤ 9223372036854775807 := by omega
            have hc3 : out.size + 1 + (bs (ktT xs xs[d].ctors[k])).size ≤ 9223372036854775807 := by omega
            by_cases hkp : 0 < k
            · have t3 : decide ((k : Int) > 0) = true := decide_eq_true (by omega)
              have hk0 : decide (k = 0) = false := by exact decide_eq_false (by omega)
              rw [hk0, if_neg (by simp)] at hst
              have hst2 : textT xs = tl (out ++ ⟨#[124]⟩ ++ bs (ktT xs xs[d].ctors[k])) ++ (ktsT xs (decide (k + 1 = 0)) (xs[d].ctors.drop (k + 1)) ++ dtsT xs false (xs.drop (d + 1))) := by
                rw [hst, tl_append, tl_append, tl_bs, decide_eq_false (show ¬ (k + 1 = 0) by omega)]
                show tl out ++ (([124] ++ (_ ++ _)) ++ _) = (tl out ++ [124]) ++ _ ++ _
                simp only [List.append_assoc, List.nil_append]
              have HST := Lib.hid hst2
              have hs2 : (out ++ ⟨#[124]⟩ ++ bs (ktT xs xs[d].ctors[k])).size ≤ 100 * d + 3 + 18 * (k + 1) := by rw [size_append, size_append]; show out.size + 1 + _ ≤ _; omega
              have HS2 := Lib.hid hs2
              clear hst hst2 hs2 hk0
              go_wp2_with fail
              refine (spec_l1CtorText xs HW.out xs[d].ctors[k] HKO.out wr _ F (ArrDt.below HX.out hB HF.out) (HF.out.mono hB.size) _ _ G3 (HK3.out.below hB HG3.out) (HG3.out.mono hB.size)).mono ?_
              rintro e w' ⟨rfl, hB'⟩
              have hB3 := hB.trans (hB'.mono hB.size)
              clear k0 k1 k2 c0 c1
              go_wp2
              go_roundw
              case rel => exact ⟨k + 1, _, by omega, by go_num, rfl, HS2.out, HST, hB3⟩
              case measure => (simp [intOf] <;> omega)
            · have t3 : decide ((k : Int) > 0) = false := decide_eq_false (by omega)
              have hk0 : decide (k = 0) = true := by exact decide_eq_true (by omega)
              rw [hk0, if_pos rfl] at hst
              have hst2 : textT xs = tl (out ++ bs (ktT xs xs[d].ctors[k])) ++ (ktsT xs (decide (k + 1 = 0)) (xs[d].ctors.drop (k + 1)) ++ dtsT xs false (xs.drop (d + 1))) := by
                rw [hst, tl_append, tl_bs, decide_eq_false (show ¬ (k + 1 = 0) by omega)]
                show tl out ++ (([] ++ (_ ++ _)) ++ _) = tl out ++ _ ++ _
                simp only [List.append_assoc, List.nil_append]
              have HST := Lib.hid hst2
              have hs2 : (out ++ bs (ktT xs xs[d].ctors[k])).size ≤ 100 * d + 3 + 18 * (k + 1) := by rw [size_append]; omega
              have HS2 := Lib.hid hs2
              clear hst hst2 hs2 hk0
              go_wp2_with fail
              refine (spec_l1CtorText xs HW.out xs[d].ctors[k] HKO.out wr _ F (ArrDt.below HX.out hB HF.out) (HF.out.mono hB.size) _ _ G3 (HK3.out.below hB HG3.out) (HG3.out.mono hB.size)).mono ?_
              rintro e w' ⟨rfl, hB'⟩
              have hB3 := hB.trans (hB'.mono hB.size)
              clear k0 k1 k2 c0 c1
              go_wp2
              go_roundw
              case rel => exact ⟨k + 1, _, by omega, by go_num, rfl, HS2.out, HST, hB3⟩
              case measure => (simp [intOf] <;> omega)
          · have hst := HT.out
            rw [List.drop_of_length_le (by omega), ktsT, List.nil_append] at hst
            have hdn : decide (d + 1 = 0) = false := decide_eq_false (by omega)
            have HST : Hid (textT xs = tl out ++ dtsT xs (decide (d + 1 = 0)) (xs.drop (d + 1))) := by rw [hdn]; exact hst
            have hos2 : out.size ≤ 100 * (d + 1) := by omega
            clear hst hdn
            go_wp2
            go_roundw
            case rel => exact ⟨d + 1, out, by omega, by go_num, rfl, hos2, HST, hB⟩
            case measure => (simp [intOf] <;> omega)
    · have hst := HT.out
      rw [List.drop_of_length_le (by omega), dtsT, List.append_nil] at hst
      have hf : Hid (bs (textT xs) = out) := by unfold Hid; rw [hst, bs_tl]
      clear hst
      go_wp2
      go_ret
      exact ⟨ret_str hf.out.symm, hB⟩
end Go.Proofs.YtcknbkbejifhcaaDoor

namespace Go.Proofs.YtcknbkbejifhcaaDoor
open Go.RowKit

set_option maxRecDepth 100000 in
set_option maxHeartbeats 1600000 in
theorem spec_FormatWorld (xs : List Dt) (w : World) (v : Value) (F : List Nat) (hx : Arr w (DtR w) xs v F) (hf : Under w.heap.size F) :
    Calls Tryd.prog 21 #[v] w fun e w' => e = .returned (.string (fmtW xs)) ∧ Below w.heap.size w w' := by
  obtain ⟨A, cap, rfl, hc1, hc2⟩ := hx.form
  have HX := Lib.hid hx
  have HF := Lib.hid hf
  clear hx hf
  go_enter Tryd.func21, Tryd.ntmps21
  go_wp2_with fail
  refine (spec_WorldValid xs w _ F HX.out HF.out).mono ?_
  rintro e w1 ⟨rfl, hb1⟩
  cases q0 : worldOk xs with
  | false =>
    have hf : Hid (fmtW xs = ⟨#[]⟩) := if_neg (by simp [q0])
    clear q0
    go_wp2
    go_ret
    exact ⟨ret_str hf.out.symm, hb1⟩
  | true =>
    have hf : Hid (fmtW xs = bs (textT xs)) := if_pos q0
    have HW := Lib.hid (worldOK q0)
    clear q0
    go_wp2_with fail
    refine (spec_l1Text xs HW.out w1 _ F (ArrDt.below HX.out hb1 HF.out) (HF.out.mono hb1.size)).mono ?_
    rintro e w2 ⟨rfl, hb2⟩
    have hB2 := hb1.trans (hb2.mono hb1.size)
    go_wp2
    go_ret
    exact ⟨ret_str hf.out.symm, hB2⟩
end Go.Proofs.YtcknbkbejifhcaaDoor

namespace Go.Proofs.YtcknbkbejifhcaaDoor
open Go.ChangeShapes Go.WideShapes Go.ChangeAt Go.RowKit

section
variable {H : Type} {enc : TypeId × Value → H} {P : Program} {w : World} {base : Nat} {spare : Nat → Bool} {held : Bool}

theorem cell_lt {w : World} {a : Addr} {v : Value} (h : w.cell? a = some v) : a.block < w.heap.size := by
  rcases Nat.lt_or_ge a.block w.heap.size with hl | hl
  · exact hl
  · unfold World.cell? at h
    rw [Array.getElem?_eq_none hl] at h
    cases h

theorem open_Arr {α : Type} (R : α → List Value → List Nat → Prop) {t e : TypeId} {k n fuel : Nat} {cs : List Value} {x : DataW H × List MemPlace} (ht : P.underlying t = some (.slice e)) (hk : P.cellsOf e = k) (hk0 : 0 < k) (hf : fuel = n + 1)
    (hR : ∀ ds y, DataW.trod enc P w base spare held n e ds = some y → ds.length = k → ∃ a F, R a ds F ∧ Under w.heap.size F)
    (h : DataW.trod enc P w base spare held fuel t cs = some x) : ∃ xs v F, cs = [v] ∧ Arr w R xs v F ∧ Under w.heap.size F := by
  subst hf
  rcases DataW.trod_slice ht h with ⟨rfl, -⟩ | ⟨a, len, cap, elems, rest, m, hm, rfl, -, -, hl, hmax, hlen, hel, -, -⟩
  · exact ⟨[], _, [], rfl, Arr.nil, Under.nil _⟩
  · obtain rfl : n = m := by omega
    by_cases h0 : len = 0
    · subst h0
      exact ⟨[], _, [], rfl, ⟨_, _, rfl, hl, hmax, .inl ⟨rfl, rfl⟩⟩, Under.nil _⟩
    · have get : ∀ i, i < len → ∃ ds y, (∀ j, j < k → w.cell? (a.add (i * k + j)) = ds[j]?) ∧ ds.length = k ∧ DataW.trod enc P w base spare held n e ds = some y := fun i hi => by
        have h1 := hel i hi
        rw [List.getElem?_eq_getElem (by omega), Option.bind_eq_some_iff] at h1
        obtain ⟨ds, h2, h3⟩ := h1
        obtain ⟨-, h4, h5⟩ := World.cells?_some h2
        rw [hk] at h4 h5
        refine ⟨ds, _, fun j hj => ?_, h4, h3⟩
        rw [← h5 j hj]
        congr 1
        unfold Addr.add
        by_cases e1 : i * k = 0 <;> by_cases e2 : j = 0 <;> simp [e1, e2, Nat.add_assoc]
      obtain ⟨b, off, spot⟩ := a
      obtain ⟨ds0, y0, g1, g2, -⟩ := get 0 (by omega)
      have hc0 : w.cell? ⟨b, off, spot⟩ = some (ds0[0]'(by omega)) := by
        have := g1 0 hk0
        simpa [Addr.add, List.getElem?_eq_getElem (show 0 < ds0.length by omega)] using this
      have hspot : spot = none := by simpa using World.cell?_spot hc0
      subst hspot
      have hb : b < w.heap.size := cell_lt hc0
      have key : ∀ m, m ≤ len → ∃ (xs : List α) (cs : List Value) (F : List Nat), xs.length = m ∧ cs.length = m * k ∧ CellsAt w b off cs ∧ Flat R xs cs F ∧ Under w.heap.size F := by
        intro m
        induction m with
        | zero => intro _; exact ⟨[], [], [], rfl, by simp, fun j u hj => by simp at hj, ⟨rfl, rfl⟩, Under.nil _⟩
        | succ m ih =>
          intro hm
          obtain ⟨xs, cs, F, h1, h2, h3, h4, h5⟩ := ih (by omega)
          obtain ⟨ds, y, g1, g2, g3⟩ := get m (by omega)
          obtain ⟨z, G, r1, r2⟩ := hR ds y g3 g2
          refine ⟨xs ++ [z], cs ++ ds, F ++ G, by simp [h1], by simp [h2, g2, Nat.add_mul], h3.append (fun j u hj => ?_), h4.append (Flat.one r1), fun c hc => ?_⟩
          · have hjk : j < k := by rw [← g2]; exact (List.getElem?_eq_some_iff.1 hj).1
            have := g1 j hjk
            rw [hj, Addr.add_lit] at this
            rw [h2, ← this]
            congr 2
            omega
          · rcases List.mem_append.1 hc with hc | hc
            · exact h5 c hc
            · exact r2 c hc
      obtain ⟨xs, cs, F, h1, h2, h3, h4, h5⟩ := key len (Nat.le_refl _)
      refine ⟨xs, _, b :: F, rfl, ⟨_, _, by rw [h1], by omega, hmax, .inr ⟨b, off, cs, F, rfl, h3, h4, rfl⟩⟩, fun c hc => ?_⟩
      rcases List.mem_cons.1 hc with rfl | hc
      · exact hb
      · exact h5 c hc

theorem one_field {fs : Array Field} {n : Nat} {cs : List Value} {xs : List (DataW H × List MemPlace)}
    (hf : ∀ (i : Nat) (f : Field), fs[i]? = some f → DataW.trod enc P w base spare held n f.type ((cs.drop f.offset).take (P.cellsOf f.type)) = xs[i]?)
    (hone : Deep.oneCellFields P fs = true) (hxl : xs.length = fs.size) (i : Nat) (f : Field) (hi : fs[i]? = some f) (c : Value) (hc : cs[i]? = some c) :
    ∃ y, DataW.trod enc P w base spare held n f.type [c] = some y := by
  obtain ⟨h1, h2⟩ := Deep.hone_of hone i f hi
  have h := hf i f hi
  have hlt : i < fs.size := (Array.getElem?_eq_some_iff.1 hi).1
  rw [List.getElem?_eq_getElem (show i < xs.length by omega), h1, h2] at h
  obtain ⟨hlc, hcc⟩ := List.getElem?_eq_some_iff.1 hc
  rw [List.drop_eq_getElem_cons hlc, hcc] at h
  exact ⟨_, h⟩

theorem sub_field {fs : Array Field} {n : Nat} {cs : List Value} {xs : List (DataW H × List MemPlace)}
    (hf : ∀ (i : Nat) (f : Field), fs[i]? = some f → DataW.trod enc P w base spare held n f.type ((cs.drop f.offset).take (P.cellsOf f.type)) = xs[i]?)
    (hxl : xs.length = fs.size) (i : Nat) (f : Field) (hi : fs[i]? = some f) (k off : Nat) (hk : P.cellsOf f.type = k) (ho : f.offset = off) :
    ∃ y, DataW.trod enc P w base spare held n f.type ((cs.drop off).take k) = some y := by
  have h := hf i f hi
  have hlt : i < fs.size := (Array.getElem?_eq_some_iff.1 hi).1
  rw [List.getElem?_eq_getElem (show i < xs.length by omega), hk, ho] at h
  exact ⟨_, h⟩

theorem open_slice_arg {α : Type} (R : α → List Value → List Nat → Prop) {t e : TypeId} {k : Nat} {r : Reach} {b0 : Nat} {v : Value} {d : DataW H} {ps : List MemPlace} (ht : P.underlying t = some (.slice e)) (hk : P.cellsOf e = k) (hk0 : 0 < k)
    (hR : ∀ n ds y, DataW.trod enc P w base spare held n e ds = some y → ∃ a F, R a ds F ∧ Under w.heap.size F)
    (hval : Value.okWide P w r b0 t v) (h : DataW.Trod enc P w base spare held t v d ps) : ∃ xs F, Arr w R xs v F ∧ Under w.heap.size F := by
  obtain ⟨a, len, cap, rfl⟩ := okWide_slice ht hval
  obtain ⟨fuel, hf⟩ := h
  cases fuel with
  | zero => simp [DataW.trod] at hf
  | succ n =>
    obtain ⟨xs, v, F, hv, ha, hF⟩ := open_Arr R ht hk hk0 rfl (fun ds y hd _ => hR n ds y hd) hf
    have : v = .slice a len cap := by simpa [Value.cells] using hv.symm
    subst this
    exact ⟨xs, F, ha, hF⟩
end
end Go.Proofs.YtcknbkbejifhcaaDoor

namespace Go.Proofs.YtcknbkbejifhcaaDoor
open Go.ChangeShapes Go.WideShapes Go.ChangeAt Go.RowKit
set_option maxRecDepth 100000

theorem cellsOf_lawsTy : Tryd.prog.cellsOf 40 = 2 := by kernel_rfl

theorem open_Ty_cells {H : Type} {enc : TypeId × Value → H} {w : World} {base : Nat} {spare : Nat → Bool} {held : Bool} (fuel : Nat) (cs : List Value) (x : DataW H × List MemPlace)
    (h : DataW.trod enc Tryd.prog w base spare held fuel 40 cs = some x) : ∃ v F, TyR w v cs F ∧ Under w.heap.size F := by
  obtain ⟨xs, n, rfl, -, hl, hxl, hf⟩ := DataW.trod_struct Tryd.underlying40 h
  rw [cellsOf_lawsTy] at hl
  match cs, hl with
  | [c0, c1], _ =>
  obtain ⟨y0, f0⟩ := sub_field hf hxl 0 _ rfl 1 0 (by kernel_rfl) rfl
  obtain ⟨i0, e0, -, -⟩ := DataW.trod_int Tryd.underlying3 f0
  obtain rfl : c0 = .int .i64 i0 := by simpa using e0
  obtain ⟨y1, f1⟩ := sub_field hf hxl 1 _ rfl 1 1 (by kernel_rfl) rfl
  obtain ⟨i1, e1, -, -⟩ := DataW.trod_int Tryd.underlying3 f1
  obtain rfl : c1 = .int .i64 i1 := by simpa using e1
  exact ⟨⟨i0, i1⟩, [], ⟨rfl, rfl⟩, Under.nil _⟩

theorem open_Ty {H : Type} {enc : TypeId × Value → H} {w : World} {base : Nat} {spare : Nat → Bool} {held : Bool} {r : Reach} {b0 : Nat} {v : Value} {d : DataW H} {ps : List MemPlace} (hval : Value.okWide Tryd.prog w r b0 40 v)
    (h : DataW.Trod enc Tryd.prog w base spare held 40 v d ps) : ∃ (x : Ty) (cs : List Value) (F : List Nat), v = .agg cs.toArray ∧ TyR w x cs F ∧ Under w.heap.size F := by
  obtain ⟨cs, rfl, -⟩ := okWide_struct Tryd.underlying40 hval
  obtain ⟨fuel, hf⟩ := h
  obtain ⟨x, F, h1, h2⟩ := open_Ty_cells fuel _ _ hf
  exact ⟨x, cs.toList, F, by simp, h1, h2⟩
theorem open_Tys {H : Type} {enc : TypeId × Value → H} {w : World} {base : Nat} {spare : Nat → Bool} {held : Bool} {r : Reach} {b0 : Nat} {v : Value} {d : DataW H} {ps : List MemPlace} (hval : Value.okWide Tryd.prog w r b0 101 v)
    (h : DataW.Trod enc Tryd.prog w base spare held 101 v d ps) : ∃ (x : List Ty) (F : List Nat), Arr w (TyR w) x v F ∧ Under w.heap.size F :=
  open_slice_arg (TyR w) Tryd.underlying101 cellsOf_lawsTy (by decide) (fun n ds y hd => open_Ty_cells n ds y hd) hval h
end Go.Proofs.YtcknbkbejifhcaaDoor

namespace Go.Proofs.YtcknbkbejifhcaaDoor
open Go.ChangeShapes Go.WideShapes Go.ChangeAt Go.RowKit
set_option maxRecDepth 100000

theorem cellsOf_lawsKt : Tryd.prog.cellsOf 103 = 3 := by kernel_rfl

theorem open_Kt_cells {H : Type} {enc : TypeId × Value → H} {w : World} {base : Nat} {spare : Nat → Bool} {held : Bool} (fuel : Nat) (cs : List Value) (x : DataW H × List MemPlace)
    (h : DataW.trod enc Tryd.prog w base spare held fuel 103 cs = some x) : ∃ v F, KtR w v cs F ∧ Under w.heap.size F := by
  obtain ⟨xs, n, rfl, -, hl, hxl, hf⟩ := DataW.trod_struct Tryd.underlying103 h
  rw [cellsOf_lawsKt] at hl
  match cs, hl with
  | [c0, c1, c2], _ =>
  obtain ⟨y0, f0⟩ := sub_field hf hxl 0 _ rfl 1 0 (by kernel_rfl) rfl
  obtain ⟨s0, e0, -, hs0⟩ := DataW.trod_string Tryd.underlying9 f0
  obtain rfl : c0 = .string s0 := by simpa using e0
  obtain ⟨y1, f1⟩ := sub_field hf hxl 1 _ rfl 1 1 (by kernel_rfl) rfl
  cases n with
  | zero => simp [DataW.trod] at f1
  | succ n =>
  obtain ⟨l1, kv, F, ek, ha, hF⟩ := open_Arr (TyR w) Tryd.underlying101 cellsOf_lawsTy (by decide) rfl (fun ds y hd _ => open_Ty_cells n ds y hd) f1
  obtain rfl : c1 = kv := by simpa using ek
  obtain ⟨y2, f2⟩ := sub_field hf hxl 2 _ rfl 1 2 (by kernel_rfl) rfl
  obtain ⟨i2, e2, -, -⟩ := DataW.trod_int Tryd.underlying3 f2
  obtain rfl : c2 = .int .i64 i2 := by simpa using e2
  exact ⟨⟨s0, l1, i2⟩, F, ⟨_, rfl, ha, (by unfold maxLen at hs0; omega)⟩, hF⟩

theorem open_Kt {H : Type} {enc : TypeId × Value → H} {w : World} {base : Nat} {spare : Nat → Bool} {held : Bool} {r : Reach} {b0 : Nat} {v : Value} {d : DataW H} {ps : List MemPlace} (hval : Value.okWide Tryd.prog w r b0 103 v)
    (h : DataW.Trod enc Tryd.prog w base spare held 103 v d ps) : ∃ (x : Kt) (cs : List Value) (F : List Nat), v = .agg cs.toArray ∧ KtR w x cs F ∧ Under w.heap.size F := by
  obtain ⟨cs, rfl, -⟩ := okWide_struct Tryd.underlying103 hval
  obtain ⟨fuel, hf⟩ := h
  obtain ⟨x, F, h1, h2⟩ := open_Kt_cells fuel _ _ hf
  exact ⟨x, cs.toList, F, by simp, h1, h2⟩
theorem open_Kts {H : Type} {enc : TypeId × Value → H} {w : World} {base : Nat} {spare : Nat → Bool} {held : Bool} {r : Reach} {b0 : Nat} {v : Value} {d : DataW H} {ps : List MemPlace} (hval : Value.okWide Tryd.prog w r b0 65 v)
    (h : DataW.Trod enc Tryd.prog w base spare held 65 v d ps) : ∃ (x : List Kt) (F : List Nat), Arr w (KtR w) x v F ∧ Under w.heap.size F :=
  open_slice_arg (KtR w) Tryd.underlying65 cellsOf_lawsKt (by decide) (fun n ds y hd => open_Kt_cells n ds y hd) hval h
end Go.Proofs.YtcknbkbejifhcaaDoor

namespace Go.Proofs.YtcknbkbejifhcaaDoor
open Go.ChangeShapes Go.WideShapes Go.ChangeAt Go.RowKit
set_option maxRecDepth 100000

theorem cellsOf_lawsDt : Tryd.prog.cellsOf 67 = 2 := by kernel_rfl

theorem open_Dt_cells {H : Type} {enc : TypeId × Value → H} {w : World} {base : Nat} {spare : Nat → Bool} {held : Bool} (fuel : Nat) (cs : List Value) (x : DataW H × List MemPlace)
    (h : DataW.trod enc Tryd.prog w base spare held fuel 67 cs = some x) : ∃ v F, DtR w v cs F ∧ Under w.heap.size F := by
  obtain ⟨xs, n, rfl, -, hl, hxl, hf⟩ := DataW.trod_struct Tryd.underlying67 h
  rw [cellsOf_lawsDt] at hl
  match cs, hl with
  | [c0, c1], _ =>
  obtain ⟨y0, f0⟩ := sub_field hf hxl 0 _ rfl 1 0 (by kernel_rfl) rfl
  obtain ⟨s0, e0, -, hs0⟩ := DataW.trod_string Tryd.underlying9 f0
  obtain rfl : c0 = .string s0 := by simpa using e0
  obtain ⟨y1, f1⟩ := sub_field hf hxl 1 _ rfl 1 1 (by kernel_rfl) rfl
  cases n with
  | zero => simp [DataW.trod] at f1
  | succ n =>
  obtain ⟨l1, kv, F, ek, ha, hF⟩ := open_Arr (KtR w) Tryd.underlying65 cellsOf_lawsKt (by decide) rfl (fun ds y hd _ => open_Kt_cells n ds y hd) f1
  obtain rfl : c1 = kv := by simpa using ek
  exact ⟨⟨s0, l1⟩, F, ⟨_, rfl, ha, (by unfold maxLen at hs0; omega)⟩, hF⟩

theorem open_Dt {H : Type} {enc : TypeId × Value → H} {w : World} {base : Nat} {spare : Nat → Bool} {held : Bool} {r : Reach} {b0 : Nat} {v : Value} {d : DataW H} {ps : List MemPlace} (hval : Value.okWide Tryd.prog w r b0 67 v)
    (h : DataW.Trod enc Tryd.prog w base spare held 67 v d ps) : ∃ (x : Dt) (cs : List Value) (F : List Nat), v = .agg cs.toArray ∧ DtR w x cs F ∧ Under w.heap.size F := by
  obtain ⟨cs, rfl, -⟩ := okWide_struct Tryd.underlying67 hval
  obtain ⟨fuel, hf⟩ := h
  obtain ⟨x, F, h1, h2⟩ := open_Dt_cells fuel _ _ hf
  exact ⟨x, cs.toList, F, by simp, h1, h2⟩
theorem open_Dts {H : Type} {enc : TypeId × Value → H} {w : World} {base : Nat} {spare : Nat → Bool} {held : Bool} {r : Reach} {b0 : Nat} {v : Value} {d : DataW H} {ps : List MemPlace} (hval : Value.okWide Tryd.prog w r b0 38 v)
    (h : DataW.Trod enc Tryd.prog w base spare held 38 v d ps) : ∃ (x : List Dt) (F : List Nat), Arr w (DtR w) x v F ∧ Under w.heap.size F :=
  open_slice_arg (DtR w) Tryd.underlying38 cellsOf_lawsDt (by decide) (fun n ds y hd => open_Dt_cells n ds y hd) hval h
end Go.Proofs.YtcknbkbejifhcaaDoor
