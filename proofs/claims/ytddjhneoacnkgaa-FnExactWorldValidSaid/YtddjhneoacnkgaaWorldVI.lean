/-
  WorldValid of the program, with its two maps. Conditions: none.
-/
import Derived.Test.YtddjhneoacnkgaaWorldL
import Derived.Test.YtddjhneoacnkgaaCtorI
import Derived.Test.YtddjhneoacnkgaaMapB
import Derived.Maps.Own
import Derived.Maps.OwnOps
import Derived.StringKeys
import Derived.Deep.RegionWith
namespace Go.Proofs.Ytddjhneoacnkgaa
open Go.RowKit

open Go.Maps
def strLit (s : ByteArray) : Lit := .string s.data.toList
theorem strLit_same (a b : ByteArray) : (strLit a).sameKey (strLit b) = (a.toList == b.toList) := by
  rw [ByteArray.toList_eq, ByteArray.toList_eq]; rfl
theorem any_same (names : List ByteArray) (s : ByteArray) : ((names.map strLit).any fun x => x.sameKey (strLit s)) = nameIn names s := by
  induction names with
  | nil => rfl
  | cons x xs ih => rw [List.map_cons, List.any_cons, ih, strLit_same]; rfl
theorem isKey_str (s : ByteArray) : WideAt.IsKeyLit (strLit s) := trivial
theorem atKey_setOf {H : Type} (u z : DataW H) (k : Lit) (acc : List Lit) (ha : ∀ x ∈ acc, WideAt.IsKeyLit x) (hk : WideAt.IsKeyLit k) : (setOf u acc).atKey k z = if acc.any (fun x => x.sameKey k) then u else z := by
  cases h : acc.any (fun x => x.sameKey k) with
  | false =>
    rw [if_neg (by simp)]
    exact atKey_of_not_has ((has_setOf u k acc ha).trans h) z
  | true =>
    rw [if_pos rfl]
    revert h
    have key : ∀ n (acc : List Lit), acc.length = n → (∀ x ∈ acc, WideAt.IsKeyLit x) → acc.any (fun x => x.sameKey k) = true → (setOf u acc).atKey k z = u := by
      intro n
      induction n with
      | zero => intro acc hl _ h; rw [List.length_eq_zero_iff.1 hl] at h; simp at h
      | succ n ih =>
        intro acc hl ha h
        obtain ⟨l, x, rfl⟩ : ∃ l x, acc = l ++ [x] := ⟨acc.dropLast, acc.getLast (by intro e; rw [e] at hl; simp at hl), (List.dropLast_concat_getLast _).symm⟩
        rw [setOf_snoc]
        have hl' : ∀ y ∈ l, WideAt.IsKeyLit y := fun y hy => ha y (List.mem_append.2 (.inl hy))
        by_cases e : k = x
        · subst e
          exact atKey_put_same (tidy_setOf u l hl').isMap hk u z
        · rw [atKey_put_other e]
          refine ih l (by simpa using hl) hl' ?_
          rw [List.any_append, Bool.or_eq_true] at h
          rcases h with h | h
          · exact h
          · simp only [List.any_cons, List.any_nil, Bool.or_false] at h
            exact absurd ((WideAt.sameKey_iff hk).1 h).symm e
    exact key _ acc rfl ha

theorem lawS : Maps.Keyed Try.prog 9 := string_keyed Try.underlying9
theorem zeroB (w : World) : (zeroValue 4).run Try.prog w = .ok (.bool false) w := by kernel_rfl

/-- block b is a map[string]bool of the call's own whose keys are these names -/
def OwnsNames (w : World) (b : Nat) (names : List ByteArray) : Prop := w.ownsMap (H := Unit) Try.prog 9 (Go.plainElem Try.prog 4) b names.length (setOf (.lit (.bool true)) (names.map strLit))
theorem OwnsNames.made (w : World) : OwnsNames (w.alloc (.map #[] 0)) w.heap.size [] := World.ownsMap_made w _ _ _
theorem OwnsNames.kept {w w' : World} {b : Nat} {names : List ByteArray} {row : Option Nat} (h : OwnsNames w b names) (hg : w.grownBy w' row) (hne : some b ≠ row) : OwnsNames w' b names := World.ownsMap.kept h hg hne
theorem OwnsNames.below {w w' : World} {b : Nat} {names : List ByteArray} (h : OwnsNames w b names) (hb : Below w.heap.size w w') : OwnsNames w' b names :=
  h.kept (row := none) ⟨hb.os, hb.tape, hb.output, hb.size, fun k hk _ => hb.block k hk⟩ (by simp)
theorem OwnsNames.alloc {w : World} {b : Nat} {names : List ByteArray} (h : OwnsNames w b names) (o : Obj) : OwnsNames (w.alloc o) b names := World.ownsMap.alloc h o
theorem OwnsNames.lt {w : World} {b : Nat} {names : List ByteArray} (h : OwnsNames w b names) : b < w.heap.size := World.ownsMap.lt h
theorem keyS (s : ByteArray) (hs : s.size ≤ maxLen) : Go.keyOf Try.prog 9 (.string s) = some (strLit s) := Go.WideMaps.keyOf_string_mk Try.underlying9 hs
theorem OwnsNames.look {w : World} {b : Nat} {names : List ByteArray} (h : OwnsNames w b names) (s : ByteArray) (hs : s.size ≤ maxLen) : (Instr.lookup 76 (.map (some b)) (.string s) false).run Try.prog w = .ok (.bool (nameIn names s)) w := by
  obtain ⟨c, hr, hc⟩ := lookup_bool h lawS Try.underlying76 Try.underlying4 (zeroB w) (keyS s hs)
  rw [hr, atKey_setOf _ _ _ _ (fun x hx => by obtain ⟨y, -, rfl⟩ := List.mem_map.1 hx; exact isKey_str y) (isKey_str s), any_same] at *
  cases hn : nameIn names s <;> rw [hn] at hc
  · rw [if_neg (by simp)] at hc; cases hc; rfl
  · rw [if_pos rfl] at hc; cases hc; rfl
theorem OwnsNames.put {w : World} {b : Nat} {names : List ByteArray} (h : OwnsNames w b names) (s : ByteArray) (w' : World) (h' : w'.ownsMap (H := Unit) Try.prog 9 (Go.plainElem Try.prog 4) b (names.length + 1) ((setOf (.lit (.bool true)) (names.map strLit)).put (strLit s) (.lit (.bool true)))) : OwnsNames w' b (names ++ [s]) := by
  unfold OwnsNames
  rw [List.map_append, List.map_cons, List.map_nil, setOf_snoc, List.length_append]
  exact h'
theorem OwnsNames.add {w : World} {b : Nat} {names : List ByteArray} (h : OwnsNames w b names) (hn : names.length < 1000000) (s : ByteArray) (hs : s.size ≤ maxLen) :
    ∃ w', (Instr.mapUpdate 76 (.map (some b)) (.string s) (.bool true)).run Try.prog w = .ok () w' ∧ OwnsNames w' b (names ++ [s]) ∧ w.grownBy w' (some b) := by
  obtain ⟨w', hr, h1, h2⟩ := World.ownsMap.update h lawS Try.underlying76 (by unfold maxLen; omega) (keyS s hs) (plainElem_bool Try.underlying4 true)
  exact ⟨w', hr, h.put s w' h1, h2⟩
theorem ctorNames_len (xs : List Dt) (h : ∀ x ∈ xs, x.ctors.length ≤ 4) : (ctorNames xs).length ≤ 4 * xs.length := by
  induction xs with
  | nil => simp [ctorNames]
  | cons x xs ih =>
    have h1 := h x (by simp)
    have h2 := ih fun y hy => h y (by simp [hy])
    simp only [ctorNames, List.flatMap_cons, List.length_append, List.length_map, List.length_cons] at h2 ⊢
    omega
theorem dname_one {s : ByteArray} (h : s.size = 1) (p : 0 < s.size) : dnameOk s.data.toList = (bigB (s[0]'p) && !(s.toList == [73])) := by
  rw [ByteArray.toList_eq, one_byte s h]
  show (bigB (s[0]'p) && !(s[0] == 73)) = _
  congr 2
  simp
theorem dname_not {s : ByteArray} (h : s.size ≠ 1) : dnameOk s.data.toList = false := by
  have hl : s.data.toList.length ≠ 1 := by simpa using h
  generalize s.data.toList = l at *
  match l, hl with
  | [], _ => rfl
  | [c], hl => simp at hl
  | _ :: _ :: _, _ => rfl

set_option maxRecDepth 100000 in
set_option maxHeartbeats 1600000 in
theorem impl_WorldValid (xs : List Dt) (w : World) (v : Value) (F : List Nat) (hx : Arr w (DtR w) xs v F) (hf : Under w.heap.size F) :
    Calls Try.prog 17 #[v] w fun e w' => e = .returned (.bool (worldOk xs)) ∧ Below w.heap.size w w' := by
  obtain ⟨A, cap, rfl, hc1, hc2⟩ := hx.form
  have hn : xs.length ≤ 9223372036854775807 := by omega
  have HX := Lib.hid hx
  have HF := Lib.hid hf
  have HN := Lib.hid hn
  clear hx hf hn
  by_cases h4 : xs.length ≤ 4
  · have H0 := Lib.hid (WInv.zero h4)
    have hmm := @run_makeMap Try.prog
    go_enter Try.func17, Try.ntmps17
    go_wp2
    clear hmm
    have HM0 : Hid (OwnsNames ((w.alloc (.map #[] 0)).alloc (.map #[] 0)) w.heap.size (ctorNames (xs.take 0))) := (OwnsNames.made w).alloc _
    have HD0 : Hid (OwnsNames ((w.alloc (.map #[] 0)).alloc (.map #[] 0)) (w.heap.size + 1) ((xs.take 0).map Dt.name)) := by
      have := OwnsNames.made (w.alloc (.map #[] 0))
      rwa [World.size_alloc] at this
    go_loopw [16] (fun iv wr => ∃ d : Nat, d ≤ xs.length ∧ iv = .int .i64 d ∧ Hid (WInv xs d) ∧ Below w.heap.size w wr ∧ Hid (OwnsNames wr (w.heap.size + 1) ((xs.take d).map Dt.name)) ∧ Hid (OwnsNames wr w.heap.size (ctorNames (xs.take d))) ∧ Hid (∀ x ∈ xs.take d, x.ctors.length ≤ 4) ∧ w.heap.size + 1 < wr.heap.size) (fun iv _ => xs.length - (intOf iv).toNat)
    case atStart => exact ⟨0, Nat.zero_le _, rfl, H0, ((Below.refl _ _).alloc (Nat.le_refl _) _).alloc (by simp) _, HD0, HM0, fun x hx => by simp at hx, by simp⟩
    case round =>
      obtain ⟨d, hd, rfl, HW, hB, HD, HM, H4, hz⟩ := hrel
      by_cases hlt : d < xs.length
      · obtain ⟨b, off, rfl⟩ := HX.out.ptr (by omega)
        obtain ⟨A1, cap1, G1, hb, c0, c1, HK, HG, hs, hn1, hn2⟩ := ArrDt.at HX.out HF.out hB d hlt
        have g1 : (0 : Int) ≤ (d : Int) := by omega
        have g2 : (d : Int) < (xs.length : Int) := by omega
        have hsm : xs[d].name.size ≤ maxLen := by unfold maxLen; exact hs
        have HS := Lib.hid hsm
        clear hs hsm
        have hlk := (HD.out.alloc (.cells #[.string xs[d].name, .slice A1 xs[d].ctors.length cap1] 65)).look xs[d].name HS.out
        by_cases h1 : xs[d].name.size = 1
        · have t1 : ((xs[d].name.size : Int) != 1) = false := by simp [h1]
          have p0 : 0 < xs[d].name.size := by omega
          have hdn := dname_one h1 p0
          clear h1
          cases hlo : decide ((65 : Int) ≤ (xs[d].name[0].toNat : Int)) with
          | false =>
            have t2 : decide ((xs[d].name[0].toNat : Int) < 65) = true := by simp at hlo ⊢; omega
            have hf := Lib.hid (HW.out.bad1 hlt (by rw [hdn]; unfold bigB; rw [hlo]; rfl))
            clear hdn hlo hlk
            go_wp2
            go_ret
            exact ⟨ret_bool hf.out.symm, hB.alloc hB.size _⟩
          | true =>
            have t2 : decide ((xs[d].name[0].toNat : Int) < 65) = false := by simp at hlo ⊢; omega
            cases hhi : decide ((xs[d].name[0].toNat : Int) ≤ 90) with
            | false =>
              have t3 : decide ((xs[d].name[0].toNat : Int) > 90) = true := by simp at hhi ⊢; omega
              have hf := Lib.hid (HW.out.bad1 hlt (by rw [hdn]; unfold bigB; rw [hlo, hhi]; rfl))
              clear hdn hlo hhi hlk
              go_wp2
              go_ret
              exact ⟨ret_bool hf.out.symm, hB.alloc hB.size _⟩
            | true =>
              have t3 : decide ((xs[d].name[0].toNat : Int) > 90) = false := by simp at hhi ⊢; omega
              have hbig : bigB xs[d].name[0] = true := by unfold bigB; rw [hlo, hhi]; rfl
              clear hlo hhi
              rw [hbig, Bool.true_and] at hdn
              clear hbig
              cases t4 : (xs[d].name.toList == [73]) with
              | true =>
                have hf := Lib.hid (HW.out.bad1 hlt (by rw [hdn, t4]; rfl))
                clear hdn hlk
                go_wp2
                go_ret
                exact ⟨ret_bool hf.out.symm, hB.alloc hB.size _⟩
              | false =>
                rw [t4] at hdn
                have HDN := Lib.hid hdn
                clear hdn
                cases e3 : nameIn ((xs.take d).map Dt.name) xs[d].name with
                | true =>
                  have hf := Lib.hid (HW.out.bad3 hlt e3)
                  rw [e3] at hlk
                  clear e3
                  go_wp2
                  go_ret
                  exact ⟨ret_bool hf.out.symm, hB.alloc hB.size _⟩
                | false =>
                  rw [e3] at hlk
                  have HE3 := Lib.hid e3
                  clear e3
                  cases e4 : withinB (xs[d].ctors.length : Int) 1 4 with
                  | false =>
                    have hf := Lib.hid (HW.out.bad2 hlt e4)
                    have HE4 := Lib.hid e4
                    clear e4
                    go_wp2_with fail
                    refine (impl_within (xs[d].ctors.length : Int) 1 4 _).mono ?_
                    rintro e w2 ⟨rfl, rfl⟩
                    rw [HE4.out]
                    go_wp2
                    go_ret
                    exact ⟨ret_bool hf.out.symm, hB.alloc hB.size _⟩
                  | true =>
                    have HK0 := Lib.hid (HW.out.goI hlt HDN.out e4 HE3.out)
                    have h5 : xs[d].ctors.length ≤ 4 := by have := (withinB_iff _ _ _).1 e4; omega
                    have H5 := Lib.hid h5
                    have HE4 := Lib.hid e4
                    clear e4 h5
                    obtain ⟨w2, hrun2, hm2, hg2⟩ := (HD.out.alloc (.cells #[.string xs[d].name, .slice A1 xs[d].ctors.length cap1] 65)).add (by rw [List.length_map, List.length_take]; omega) xs[d].name HS.out
                    have k2 := Blk.new wr 65 #[.string xs[d].name, .slice A1 xs[d].ctors.length cap1]
                    have k3 := k2.same (hg2.block _ k2.lt (by have := HD.out.lt; simp; omega))
                    have x1 : w2.cell? ⟨wr.heap.size, 1, none⟩ = some (.slice A1 xs[d].ctors.length cap1) := (k3.cell 1).trans (by simp)
                    have hx1 := k3.lt
                    clear k2 k3
                    have hBa : Below w.heap.size w (wr.alloc (.cells #[.string xs[d].name, .slice A1 xs[d].ctors.length cap1] 65)) := hB.alloc hB.size _
                    have hB3 := hBa.grown hg2 hBa.size (fun _ h => by cases h; omega)
                    have HM3 : Hid (OwnsNames w2 w.heap.size (ctorNames (xs.take d) ++ (xs[d].ctors.take 0).map Kt.name)) := by
                      rw [List.take_zero, List.map_nil, List.append_nil]
                      exact (HM.out.alloc _).kept hg2 (by simp)
                    have HD3 : Hid (OwnsNames w2 (w.heap.size + 1) ((xs.take (d + 1)).map Dt.name)) := by
                      rw [take_snoc' xs d hlt, List.map_append]; exact hm2
                    have hz3 : w.heap.size + 1 < w2.heap.size := by have := hg2.size; simp at this; omega
                    clear hm2 hg2 hBa HD HM hz
                    go_wp2_with fail
                    refine (impl_within (xs[d].ctors.length : Int) 1 4 _).mono ?_
                    rintro e w2' ⟨rfl, rfl⟩
                    rw [HE4.out]
                    go_wp2
                    clear x1 hx1 hrun2 hlk t1 t2 t3 t4 c0 c1
                    obtain ⟨wo, hwo⟩ : ∃ wo : World, wo = w2 := ⟨_, rfl⟩
                    go_loopw [60] (fun jv ws => ∃ k : Nat, k ≤ xs[d].ctors.length ∧ jv = .int .i64 k ∧ Hid (KInvI xs d hlt k) ∧ Below w.heap.size w ws ∧ Hid (OwnsNames ws (w.heap.size + 1) ((xs.take (d + 1)).map Dt.name)) ∧ Hid (OwnsNames ws w.heap.size (ctorNames (xs.take d) ++ (xs[d].ctors.take k).map Kt.name)) ∧ w.heap.size + 1 < ws.heap.size) (fun jv _ => xs[d].ctors.length - (intOf jv).toNat)
                    case atStart => exact ⟨0, Nat.zero_le _, rfl, HK0, hB3, HD3, HM3, hz3⟩
                    case round =>
                      clear hwo hz3 hB3 hB
                      obtain ⟨k, hk, rfl, HKI, hB, HD, HM, hz⟩ := hrel
                      by_cases hkl : k < xs[d].ctors.length
                      · obtain ⟨b2, off2, rfl⟩ := HK.out.ptr (by omega)
                        obtain ⟨A3, cap3, G3, hb3, k0, k1, k2, HC, HG3, hs3, -, -⟩ := ArrKt.rep HK.out HG.out hB k hkl
                        have g3 : (0 : Int) ≤ (k : Int) := by omega
                        have g4 : (k : Int) < (xs[d].ctors.length : Int) := by omega
                        have HS3 := Lib.hid hs3
                        clear hs3
                        go_wp2_with fail
                        obtain ⟨W4, hW4⟩ : ∃ W4, W4 = wr.alloc (.cells #[.string xs[d].ctors[k].name, .slice A3 xs[d].ctors[k].args.length cap3, .int .i64 xs[d].ctors[k].idx] 68) := ⟨_, rfl⟩
                        have hb4 : Below wr.heap.size wr W4 := by rw [hW4]; exact (Below.refl _ _).alloc (Nat.le_refl _) _
                        have k4 : Blk W4 wr.heap.size 68 #[.string xs[d].ctors[k].name, .slice A3 xs[d].ctors[k].args.length cap3, .int .i64 xs[d].ctors[k].idx] := by rw [hW4]; exact Blk.new _ _ _
                        rw [← hW4]
                        clear hW4
                        have hB4 := hB.trans (hb4.mono hB.size)
                        refine (impl_ctorOk _ xs.length cap xs[d].ctors[k] W4 _ _ HN.out (HC.out.below hB4 HG3.out) (HG3.out.mono hB4.size)).mono ?_
                        rintro e w5 ⟨rfl, hb5⟩
                        have hB5 := hB4.trans (hb5.mono hB4.size)
                        have k5 := k4.same (hb5.block _ k4.lt)
                        have x0 : w5.cell? ⟨wr.heap.size, 0, none⟩ = some (.string xs[d].ctors[k].name) := (k5.cell 0).trans (by simp)
                        have hx0 := k5.lt
                        clear k4 k5 k0 k1 k2
                        have HD5 := Lib.hid ((HD.out.below hb4).below hb5)
                        have HM5 := Lib.hid ((HM.out.below hb4).below hb5)
                        have hlk := HM5.out.look xs[d].ctors[k].name (by unfold maxLen; exact HS3.out)
                        cases e2 : ctorOkB xs.length xs[d].ctors[k] with
                        | false =>
                          have hf := Lib.hid (HKI.out.bad1 hkl e2)
                          clear e2 hlk
                          go_wp2
                          go_ret
                          exact ⟨ret_bool hf.out.symm, hB5⟩
                        | true =>
                          cases e3 : nameIn (ctorNames (xs.take d) ++ (xs[d].ctors.take k).map Kt.name) xs[d].ctors[k].name with
                          | true =>
                            have hf := Lib.hid (HKI.out.bad2 hkl e3)
                            rw [e3] at hlk
                            clear e2 e3
                            go_wp2
                            go_ret
                            exact ⟨ret_bool hf.out.symm, hB5⟩
                          | false =>
                            have HK3 := Lib.hid (HKI.out.next hkl e2 e3)
                            rw [e3] at hlk
                            clear e2 e3
                            obtain ⟨w6, hrun6, hm6, hg6⟩ := HM5.out.add (by
                              have h1 := ctorNames_len (xs.take d) (fun x hx => H4.out x hx)
                              have h2 : (xs.take d).length ≤ 4 := by rw [List.length_take]; omega
                              have h3 := H5.out
                              simp only [List.length_append, List.length_map, List.length_take]
                              omega) xs[d].ctors[k].name (by unfold maxLen; exact HS3.out)
                            have hB6 := hB5.grown hg6 hB5.size (fun _ h => by cases h; exact Nat.le_refl _)
                            have HD6 := Lib.hid (HD5.out.kept hg6 (by simp))
                            have HM6 : Hid (OwnsNames w6 w.heap.size (ctorNames (xs.take d) ++ (xs[d].ctors.take (k + 1)).map Kt.name)) := by
                              rw [take_snoc' _ k hkl, List.map_append, ← List.append_assoc]; exact hm6
                            have hz6 : w.heap.size + 1 < w6.heap.size := Nat.lt_of_lt_of_le hz (Nat.le_trans hb4.size (Nat.le_trans hb5.size hg6.size))
                            clear hm6 hg6 hb5 hb4 HD5 HM5 hB4 hB5 hB
                            go_wp2
                            go_roundw
                            case rel => exact ⟨k + 1, by omega, by go_num, HK3, hB6, HD6, HM6, hz6⟩
                            case measure => (simp [intOf] <;> omega)
                      · have HW2 := Lib.hid (HKI.out.done (by omega))
                        have HM6 : Hid (OwnsNames wr w.heap.size (ctorNames (xs.take (d + 1)))) := by
                          have h := HM.out
                          rw [List.take_of_length_le (show xs[d].ctors.length ≤ k by omega), ← ctorNames_snoc, ← take_snoc' xs d hlt] at h
                          exact h
                        have H6 : Hid (∀ x ∈ xs.take (d + 1), x.ctors.length ≤ 4) := fun x hx => by
                          rw [take_snoc' xs d hlt] at hx
                          rcases List.mem_append.1 hx with h | h
                          · exact H4.out x h
                          · rw [List.mem_singleton.1 h]; exact H5.out
                        go_wp2
                        go_roundw
                        case rel => exact ⟨d + 1, by omega, by go_num, HW2, hB, HD, HM6, H6, hz⟩
                        case measure => (simp [intOf] <;> omega)
        · have t1 : ((xs[d].name.size : Int) != 1) = true := by simp; omega
          have hf := Lib.hid (HW.out.bad1 hlt (dname_not h1))
          clear h1 hlk
          go_wp2
          go_ret
          exact ⟨ret_bool hf.out.symm, hB.alloc hB.size _⟩
      · have hf := Lib.hid (HW.out.done (by omega))
        go_wp2
        go_ret
        exact ⟨ret_bool hf.out.symm, hB⟩
  · have hf := Lib.hid (worldOk_long h4)
    go_enter Try.func17, Try.ntmps17
    go_wp2
    go_ret
    exact ⟨ret_bool hf.out.symm, Below.refl _ _⟩
end Go.Proofs.Ytddjhneoacnkgaa
