/-
  Lemmas and contracts of functions: l1Args of the reference. Conditions: the constructor is one of the world. ctorsOf of the program: the constructors that can make values of a type. Conditions: the type lies in the world, the world is not too large. l1Ctors of the reference, and CtorsOf of both. Conditions: none for CtorsOf. eqIntS at equal lists. Conditions: both stand for the same list. A number in a list: slices.Contains and l1Has. Conditions: none. ArgTypes of the reference and of the program. Conditions: none. Writing every part of a datum anew (mark) and reading it back (held): what changes in memory. Conditions: none. markText: a text for a number. Conditions: the number is between 0 and 1099511627776. markTypeS: every part is written anew. Conditions: the parts are no more than 1099511627776. markCtorS: every part is written anew. Conditions: the parts are no more than 1099511627776. markDataS: every part is written anew. Conditions: the parts are no more than 1099511627776. heldTypeS: what mark wrote is there. Conditions: the parts are no more than 1099511627776. What comes in as an argument (slices of structs, trees) lies in memory as the plain data say. Conditions: none. A Type that comes in as an argument lies in memory as the plain data say. Conditions: none. A Ctor that comes in as an argument lies in memory as the plain data say. Conditions: none. A Data that comes in as an argument lies in memory as the plain data say. Conditions: none.
-/
import Derived.Test.YtddjhneoacnkgaaFnExactArgTypesPa
import Derived.Deep.RegionWith
import Derived.Deep.RegionHeld3
import Derived.Test.YtddjhneoacnkgaaChecked
import Derived.Deep.QuietTactic
import Derived.BigQuiet
import Derived.Laws.BytesArg
import Derived.ProofKit
import Derived.ChangeArms
import Derived.Deep.Fields

namespace Go.Proofs.Ytddjhneoacnkgaa
open Go.RowKit

set_option maxRecDepth 100000 in
set_option maxHeartbeats 1600000 in
theorem spec_l1Result (c : Kt) (i : Int) (A : Option Addr) (n cap : Nat) (w : World) : Calls Try.prog 89 #[.agg #[.string c.name, .slice A n cap, .int .i64 c.idx], .int .i64 i] w fun e w' => e = .returned (.int .i64 (resIdx c i)) ∧ Below w.heap.size w w' := by
  cases q : (c.idx == 0) with
  | true =>
    have hf : Hid (resIdx c i = i) := if_pos q
    go_enter Try.func89, Try.ntmps89
    go_wp2
    go_ret
    exact ⟨ret_int hf.out.symm, (Below.refl _ _).alloc (Nat.le_refl _) _⟩
  | false =>
    have hf : Hid (resIdx c i = c.idx) := if_neg (by simp [q])
    go_enter Try.func89, Try.ntmps89
    go_wp2
    go_ret
    exact ⟨ret_int hf.out.symm, (Below.refl _ _).alloc (Nat.le_refl _) _⟩
set_option maxRecDepth 100000 in
set_option maxHeartbeats 1600000 in
theorem spec_l1Args (xs : List Dt) (d k : Nat) (i : Int) (hd : d < xs.length) (hk : k < xs[d].ctors.length) (w : World) (v : Value) (F : List Nat) (hx : Arr w (DtR w) xs v F) (hf : Under w.heap.size F) (hal : xs[d].ctors[k].args.length ≤ 3) :
    Calls Try.prog 66 #[v, .agg #[.int .i64 (d : Int), .int .i64 i], .int .i64 (k : Int)] w (GivesTys w (argsL xs[d].ctors[k] i)) := by
  obtain ⟨A, cap, rfl, hc1, hc2⟩ := hx.form
  obtain ⟨b, off, rfl⟩ := hx.ptr (by omega)
  have HX := Lib.hid hx
  have HF := Lib.hid hf
  clear hx hf
  obtain ⟨i0, hi, hz0, hz1, hz2⟩ := info_parts info_tyE
  have HI := Lib.hid hi
  have HZ0 := Lib.hid hz0
  have HZ1 := Lib.hid hz1
  have HZ2 := Lib.hid hz2
  clear hi hz0 hz1 hz2
  have hB0 : Below w.heap.size w ((w.alloc (.cells #[.int .i64 (d : Int), .int .i64 i] 33)).alloc (.cells #[] 33)) := ((Below.refl _ _).alloc (Nat.le_refl _) _).alloc (by simp) _
  obtain ⟨A1, cap1, G1, hb, c0, c1, HK, HG, -, hn1, hn2⟩ := ArrDt.at HX.out HF.out hB0 d hd
  clear c0
  obtain ⟨b2, off2, rfl⟩ := HK.out.ptr (by omega)
  obtain ⟨A3, cap3, G3, hb3, k0, k1, k2, HC, HG3, -, hn3, hn4⟩ := ArrKt.at HK.out HG.out hB0 k hk
  have g1 : (0 : Int) ≤ (d : Int) := by omega
  have g2 : (d : Int) < (xs.length : Int) := by omega
  have g3 : (0 : Int) ≤ (k : Int) := by omega
  have g4 : (k : Int) < (xs[d].ctors.length : Int) := by omega
  have HL := Lib.hid hal
  go_enter Try.func66, Try.ntmps66
  go_wp2
  clear c1 k0 k1 k2 hb hb3
  have hB2 : Below w.heap.size w (((w.alloc (.cells #[.int .i64 (d : Int), .int .i64 i] 33)).alloc (.cells #[] 33)).alloc (.cells #[.string xs[d].ctors[k].name, .slice A3 xs[d].ctors[k].args.length cap3, .int .i64 xs[d].ctors[k].idx] 68)) := hB0.alloc (by simp; omega) _
  have KT0 : Hid (Blk (((w.alloc (.cells #[.int .i64 (d : Int), .int .i64 i] 33)).alloc (.cells #[] 33)).alloc (.cells #[.string xs[d].ctors[k].name, .slice A3 xs[d].ctors[k].args.length cap3, .int .i64 xs[d].ctors[k].idx] 68)) w.heap.size 33 #[.int .i64 (d : Int), .int .i64 i]) := ((Blk.new _ _ _).same (Below.heap_alloc _ _ _ (by simp))).same (Below.heap_alloc _ _ _ (by simp; omega))
  have KC0 : Hid (Blk (((w.alloc (.cells #[.int .i64 (d : Int), .int .i64 i] 33)).alloc (.cells #[] 33)).alloc (.cells #[.string xs[d].ctors[k].name, .slice A3 xs[d].ctors[k].args.length cap3, .int .i64 xs[d].ctors[k].idx] 68)) (w.heap.size + 2) 68 #[.string xs[d].ctors[k].name, .slice A3 xs[d].ctors[k].args.length cap3, .int .i64 xs[d].ctors[k].idx]) := by
    have h := Blk.new ((w.alloc (.cells #[.int .i64 (d : Int), .int .i64 i] 33)).alloc (.cells #[] 33)) 68 #[.string xs[d].ctors[k].name, .slice A3 xs[d].ctors[k].args.length cap3, .int .i64 xs[d].ctors[k].idx]
    rw [show ((w.alloc (.cells #[.int .i64 (d : Int), .int .i64 i] 33)).alloc (.cells #[] 33)).heap.size = w.heap.size + 2 from by simp] at h
    exact h
  have HO0 : Hid (Own (((w.alloc (.cells #[.int .i64 (d : Int), .int .i64 i] 33)).alloc (.cells #[] 33)).alloc (.cells #[.string xs[d].ctors[k].name, .slice A3 xs[d].ctors[k].args.length cap3, .int .i64 xs[d].ctors[k].idx] 68)) (w.heap.size + 1) 33 2 TyR ([] : List Ty) (.slice (some ⟨w.heap.size + 1, 0, none⟩) 0 0) []) := by
    have h := Own.made (w.alloc (.cells #[.int .i64 (d : Int), .int .i64 i] 33)) (w.heap.size + 1) 33 2 TyR #[] 0 (by simp) (by simp [maxLen]) rfl
    rw [World.size_alloc] at h
    exact h.below (fun x cs G hk h => TyR_mono' _ _ x cs G hk h) ((Below.refl _ _).alloc (Nat.le_refl _) _)
  go_loopw [7, 9] (fun ov jv wr => ∃ j : Nat, j ≤ xs[d].ctors[k].args.length ∧ jv = .int .i64 j ∧ Hid (Own wr (w.heap.size + 1) 33 2 TyR (argsTo (resIdx xs[d].ctors[k] i) xs[d].ctors[k].args j) ov []) ∧ Below w.heap.size w wr ∧ Hid (Blk wr w.heap.size 33 #[.int .i64 (d : Int), .int .i64 i]) ∧ Hid (Blk wr (w.heap.size + 2) 68 #[.string xs[d].ctors[k].name, .slice A3 xs[d].ctors[k].args.length cap3, .int .i64 xs[d].ctors[k].idx]) ∧ Hid (∀ g' ∈ rowOf ov, g' = w.heap.size + 1 ∨ w.heap.size + 3 ≤ g')) (fun _ jv _ => xs[d].ctors[k].args.length - (intOf jv).toNat)
  case atStart => exact ⟨0, Nat.zero_le _, rfl, HO0, hB2, KT0, KC0, fun g' hg' => by rw [rowOf_some, List.mem_singleton] at hg'; exact .inl hg'⟩
  case round =>
    clear hB2 hB0 KT0 KC0 HO0
    obtain ⟨j, hj, rfl, HO, hB, KT, KC, HN⟩ := hrel
    have y1 : wr.cell? ⟨w.heap.size, 1, none⟩ = some (.int .i64 i) := (KT.out.cell 1).trans (by simp)
    have q0 : wr.cell? ⟨w.heap.size + 2, 0, none⟩ = some (.string xs[d].ctors[k].name) := (KC.out.cell 0).trans (by simp)
    have q1 : wr.cell? ⟨w.heap.size + 2, 1, none⟩ = some (.slice A3 xs[d].ctors[k].args.length cap3) := (KC.out.cell 1).trans (by simp)
    have q2 : wr.cell? ⟨w.heap.size + 2, 2, none⟩ = some (.int .i64 xs[d].ctors[k].idx) := (KC.out.cell 2).trans (by simp)
    have hsz := KC.out.lt
    have hsz0 := KT.out.lt
    by_cases hjl : j < xs[d].ctors[k].args.length
    · obtain ⟨b3, off3, rfl⟩ := HC.out.ptr (by omega)
      obtain ⟨hb4, a0, a1⟩ := ArrTy.at HC.out HG3.out hB j hjl
      have g5 : (0 : Int) ≤ (j : Int) := by omega
      have g6 : (j : Int) < (xs[d].ctors[k].args.length : Int) := by omega
      have hbx : Below wr.heap.size wr (wr.alloc (.cells #[.int .i64 xs[d].ctors[k].args[j].d, .int .i64 xs[d].ctors[k].args[j].i] 33)) := (Below.refl _ _).alloc (Nat.le_refl _) _
      have hBx := hB.trans (hbx.mono hB.size)
      have HOx := Lib.hid (HO.out.below (fun x cs G hk h => TyR_mono' _ _ x cs G hk h) hbx)
      have KTx := Lib.hid (KT.out.same (hbx.block _ KT.out.lt))
      have KCx := Lib.hid (KC.out.same (hbx.block _ KC.out.lt))
      cases q3 : (xs[d].ctors[k].args[j].i == -1) with
      | true =>
        have HF2 := Lib.hid ((argsTo_succ (resIdx xs[d].ctors[k] i) xs[d].ctors[k].args j hjl).trans (by rw [argTy_yes q3]))
        have KX := Lib.hid (Blk.new wr 33 #[.int .i64 xs[d].ctors[k].args[j].d, .int .i64 xs[d].ctors[k].args[j].i])
        go_wp2_with fail
        obtain ⟨W4, hW4⟩ : ∃ W4, W4 = wr.alloc (.cells #[.int .i64 xs[d].ctors[k].args[j].d, .int .i64 xs[d].ctors[k].args[j].i] 33) := ⟨_, rfl⟩
        rw [← hW4] at hbx hBx HOx KTx KCx KX ⊢
        clear hW4
        refine (spec_l1Result xs[d].ctors[k] i _ _ _ W4).mono ?_
        rintro e w4 ⟨rfl, hb4'⟩
        have hB4 := hBx.trans (hb4'.mono hBx.size)
        have HO4 := Lib.hid (HOx.out.below (fun x cs G hk h => TyR_mono' _ _ x cs G hk h) hb4')
        have KT4 := Lib.hid (KTx.out.same (hb4'.block _ KTx.out.lt))
        have KC4 := Lib.hid (KCx.out.same (hb4'.block _ KCx.out.lt))
        have k4 := KX.out.same (hb4'.block _ KX.out.lt)
        have z0 : w4.cell? ⟨wr.heap.size, 0, none⟩ = some (.int .i64 xs[d].ctors[k].args[j].d) := (k4.cell 0).trans (by simp)
        have z1 : w4.cell? ⟨wr.heap.size, 1, none⟩ = some (.int .i64 xs[d].ctors[k].args[j].i) := (k4.cell 1).trans (by simp)
        have zf := k4.frozen 1
        have hz4 := k4.lt
        have hrw := HO4.out.row
        have hrow0 := HO.out.row
        have hB1 : Below w.heap.size w (w4.setCell ⟨wr.heap.size, 1, none⟩ (.int .i64 (resIdx xs[d].ctors[k] i))) := hB4.setCell (by show w.heap.size ≤ wr.heap.size; omega) _
        have HO1 := Lib.hid (Own.set (j := 1) (b := wr.heap.size) TyR_mono' HO4.out (.int .i64 (resIdx xs[d].ctors[k] i)) (fun h => by have := (hrow0 _ h).2; omega) (fun h => by cases h))
        have KT1 : Hid (Blk (w4.setCell ⟨wr.heap.size, 1, none⟩ (.int .i64 (resIdx xs[d].ctors[k] i))) w.heap.size 33 #[.int .i64 (d : Int), .int .i64 i]) := KT4.out.same (Below.heap_setCell _ _ _ _ (by show w.heap.size ≠ wr.heap.size; omega))
        have KC1 : Hid (Blk (w4.setCell ⟨wr.heap.size, 1, none⟩ (.int .i64 (resIdx xs[d].ctors[k] i))) (w.heap.size + 2) 68 #[.string xs[d].ctors[k].name, .slice (some ⟨b3, off3, none⟩) xs[d].ctors[k].args.length cap3, .int .i64 xs[d].ctors[k].idx]) := KC4.out.same (Below.heap_setCell _ _ _ _ (by show w.heap.size + 2 ≠ wr.heap.size; omega))
        have hbs : w.heap.size + 1 ≤ (w4.setCell ⟨wr.heap.size, 1, none⟩ (.int .i64 (resIdx xs[d].ctors[k] i))).heap.size := Nat.le_of_lt (Nat.lt_of_le_of_lt (Nat.le_add_right _ 1) KC1.out.lt)
        have hbs3 : w.heap.size + 3 ≤ (w4.setCell ⟨wr.heap.size, 1, none⟩ (.int .i64 (resIdx xs[d].ctors[k] i))).heap.size := KC1.out.lt
        have hrow2 := HN.out
        clear hbx hBx HOx KTx KCx KX k4 hrw hrow0 y1 q0 q1 q2 a0 a1
        generalize hrr : resIdx xs[d].ctors[k] i = rr at *
        have HRR := Lib.hid hrr
        clear hrr
        go_wp2_with (at_builtin; refine Halt.mk ?_)
        refine Halt.of (wpList_push1 (P := Try.prog) rfl _ _ 43 rfl i0 _ 16 Try.underlying43 HI.out HZ0.out HZ1.out HZ2.out rfl (by decide) TyR_len' TyR_mono' (by rfl) HO1.out ⟨xs[d].ctors[k].args[j].d, rr⟩ 33 [.int .i64 (xs[d].ctors[k].args[j].d), .int .i64 (rr)] [] _ (by rfl) (by simp) (by simp [Value.oneCell']) ⟨rfl, rfl⟩ (Under.nil _) (fun _ _ h => by cases h) (by have := argsTo_len (rr) xs[d].ctors[k].args j; unfold maxLen; omega) (by have := argsTo_len (rr) xs[d].ctors[k].args j; omega) hbs ?_)
        intro g cp w3 hown3 hgr3 hat3
        have hrow := HO1.out.row
        have hB3 : Below w.heap.size w w3 := (hB1.alloc hB1.size _).grown hgr3 (by have := hB1.size; simp; omega) (fun g hg => by have := hrow g (mem_rowOf.2 hg); omega)
        have HO3 := Lib.hid hown3
        have KT3 : Hid (Blk w3 w.heap.size 33 #[.int .i64 (d : Int), .int .i64 i]) := (KT1.out.same (Below.heap_alloc _ _ _ KT1.out.lt)).same (hgr3.block _ (by have := KT1.out.lt; simp; omega) (fun e => by have := hrow _ (mem_rowOf.2 e.symm); omega))
        have KC3 : Hid (Blk w3 (w.heap.size + 2) 68 #[.string xs[d].ctors[k].name, .slice (some ⟨b3, off3, none⟩) xs[d].ctors[k].args.length cap3, .int .i64 xs[d].ctors[k].idx]) := (KC1.out.same (Below.heap_alloc _ _ _ KC1.out.lt)).same (hgr3.block _ (by have := KC1.out.lt; simp; omega) (fun e => by have := hrow2 _ (mem_rowOf.2 e.symm); omega))
        have hne3 : ∀ g' ∈ rowOf (.slice (some ⟨g, 0, none⟩) ((argsTo (rr) xs[d].ctors[k].args j).length + 1) cp), g' = w.heap.size + 1 ∨ w.heap.size + 3 ≤ g' := fun g' hg' => by
          rw [rowOf_some, List.mem_singleton] at hg'
          subst hg'
          rcases hat3 with h | h
          · exact hrow2 _ (mem_rowOf.2 h)
          · right; have := hbs3; omega
        have HN3 := Lib.hid hne3
        clear hown3 hgr3 hat3 hrow hrow2 hne3
        go_wp2
        go_roundw
        case rel => exact ⟨j + 1, by omega, by go_num, (by rw [HRR.out, HF2.out]; exact HO3.out), hB3, KT3, KC3, HN3⟩
        case measure => (simp [intOf] <;> omega)
      | false =>
        have HF2 := Lib.hid ((argsTo_succ (resIdx xs[d].ctors[k] i) xs[d].ctors[k].args j hjl).trans (by rw [argTy_no q3]))
        have hB1 := hBx
        have HO1 := HOx
        have KT1 : Hid (Blk (wr.alloc (.cells #[.int .i64 xs[d].ctors[k].args[j].d, .int .i64 xs[d].ctors[k].args[j].i] 33)) w.heap.size 33 #[.int .i64 (d : Int), .int .i64 i]) := KTx
        have KC1 : Hid (Blk (wr.alloc (.cells #[.int .i64 xs[d].ctors[k].args[j].d, .int .i64 xs[d].ctors[k].args[j].i] 33)) (w.heap.size + 2) 68 #[.string xs[d].ctors[k].name, .slice (some ⟨b3, off3, none⟩) xs[d].ctors[k].args.length cap3, .int .i64 xs[d].ctors[k].idx]) := KCx
        have hbs : w.heap.size + 1 ≤ (wr.alloc (.cells #[.int .i64 xs[d].ctors[k].args[j].d, .int .i64 xs[d].ctors[k].args[j].i] 33)).heap.size := Nat.le_of_lt (Nat.lt_of_le_of_lt (Nat.le_add_right _ 1) KC1.out.lt)
        have hbs3 : w.heap.size + 3 ≤ (wr.alloc (.cells #[.int .i64 xs[d].ctors[k].args[j].d, .int .i64 xs[d].ctors[k].args[j].i] 33)).heap.size := KC1.out.lt
        have hrow2 := HN.out
        clear hBx HOx KTx KCx
        go_wp2_with (at_builtin; refine Halt.mk ?_)
        refine Halt.of (wpList_push1 (P := Try.prog) rfl _ _ 43 rfl i0 _ 16 Try.underlying43 HI.out HZ0.out HZ1.out HZ2.out rfl (by decide) TyR_len' TyR_mono' (by rfl) HO1.out ⟨xs[d].ctors[k].args[j].d, xs[d].ctors[k].args[j].i⟩ 33 [.int .i64 (xs[d].ctors[k].args[j].d), .int .i64 (xs[d].ctors[k].args[j].i)] [] _ (by rfl) (by simp) (by simp [Value.oneCell']) ⟨rfl, rfl⟩ (Under.nil _) (fun _ _ h => by cases h) (by have := argsTo_len (resIdx xs[d].ctors[k] i) xs[d].ctors[k].args j; unfold maxLen; omega) (by have := argsTo_len (resIdx xs[d].ctors[k] i) xs[d].ctors[k].args j; omega) hbs ?_)
        intro g cp w3 hown3 hgr3 hat3
        have hrow := HO1.out.row
        have hB3 : Below w.heap.size w w3 := (hB1.alloc hB1.size _).grown hgr3 (by have := hB1.size; simp; omega) (fun g hg => by have := hrow g (mem_rowOf.2 hg); omega)
        have HO3 := Lib.hid hown3
        have KT3 : Hid (Blk w3 w.heap.size 33 #[.int .i64 (d : Int), .int .i64 i]) := (KT1.out.same (Below.heap_alloc _ _ _ KT1.out.lt)).same (hgr3.block _ (by have := KT1.out.lt; simp; omega) (fun e => by have := hrow _ (mem_rowOf.2 e.symm); omega))
        have KC3 : Hid (Blk w3 (w.heap.size + 2) 68 #[.string xs[d].ctors[k].name, .slice (some ⟨b3, off3, none⟩) xs[d].ctors[k].args.length cap3, .int .i64 xs[d].ctors[k].idx]) := (KC1.out.same (Below.heap_alloc _ _ _ KC1.out.lt)).same (hgr3.block _ (by have := KC1.out.lt; simp; omega) (fun e => by have := hrow2 _ (mem_rowOf.2 e.symm); omega))
        have hne3 : ∀ g' ∈ rowOf (.slice (some ⟨g, 0, none⟩) ((argsTo (resIdx xs[d].ctors[k] i) xs[d].ctors[k].args j).length + 1) cp), g' = w.heap.size + 1 ∨ w.heap.size + 3 ≤ g' := fun g' hg' => by
          rw [rowOf_some, List.mem_singleton] at hg'
          subst hg'
          rcases hat3 with h | h
          · exact hrow2 _ (mem_rowOf.2 h)
          · right; have := hbs3; omega
        have HN3 := Lib.hid hne3
        clear hown3 hgr3 hat3 hrow hrow2 hne3
        go_wp2
        go_roundw
        case rel => exact ⟨j + 1, by omega, by go_num, (by rw [HF2.out]; exact HO3.out), hB3, KT3, KC3, HN3⟩
        case measure => (simp [intOf] <;> omega)
    · have hfin : GivesTys w (argsL xs[d].ctors[k] i) (.returned u7) wr := by
        unfold argsL
        have h := HO.out
        rw [argsTo_all _ _ (by omega)] at h
        exact h.tys hB (by omega)
      have HFin := Lib.hid hfin
      clear hfin
      go_wp2
      go_ret
      exact HFin.out
end Go.Proofs.Ytddjhneoacnkgaa

namespace Go.Proofs.Ytddjhneoacnkgaa
open Go.RowKit

theorem info_int : (Try.prog.info? 3).map (fun i => (i.zero, i.size, i.bytes)) = some (some (.int .i64 0), 1, 8) := by kernel_rfl

/-- a constructor can make values with an index -/
def fitsB (c : Kt) (i : Int) : Bool := c.idx == 0 || (i == 0 || c.idx == i)
def fitAt (cs : List Kt) (i : Int) (k : Nat) : Bool := match cs[k]? with | some c => fitsB c i | none => false
/-- the constructors that can make values with an index, among the first n -/
def fitTo (cs : List Kt) (i : Int) (n : Nat) : List Int := ((List.range n).filter (fitAt cs i)).map Int.ofNat
def ctorsAt (xs : List Dt) (d : Int) : List Kt := match xs[d.toNat]? with | some x => x.ctors | none => []
def ctorsL (xs : List Dt) (t : Ty) : List Int := if t.d = -1 then [] else fitTo (ctorsAt xs t.d) t.i (ctorsAt xs t.d).length
theorem fitTo_zero (cs : List Kt) (i : Int) : fitTo cs i 0 = [] := rfl
theorem fitTo_succ (cs : List Kt) (i : Int) (n : Nat) (h : n < cs.length) : fitTo cs i (n + 1) = if fitsB cs[n] i then fitTo cs i n ++ [(n : Int)] else fitTo cs i n := by
  unfold fitTo
  rw [List.range_succ, List.filter_append]
  have hf : fitAt cs i n = fitsB cs[n] i := by unfold fitAt; rw [List.getElem?_eq_getElem h]
  cases hb : fitsB cs[n] i <;> simp [hf, hb]
theorem fitTo_yes {cs : List Kt} {i : Int} {n : Nat} (h : n < cs.length) (e : fitsB cs[n] i = true) : fitTo cs i (n + 1) = fitTo cs i n ++ [(n : Int)] := by rw [fitTo_succ cs i n h, if_pos e]
theorem fitTo_no {cs : List Kt} {i : Int} {n : Nat} (h : n < cs.length) (e : fitsB cs[n] i = false) : fitTo cs i (n + 1) = fitTo cs i n := by rw [fitTo_succ cs i n h, if_neg (by simp [e])]
theorem fitTo_len (cs : List Kt) (i : Int) (n : Nat) : (fitTo cs i n).length ≤ n := by
  unfold fitTo
  rw [List.length_map]
  exact Nat.le_trans (List.length_filter_le _ _) (by simp)
theorem ctorsL_int {xs : List Dt} {t : Ty} (h : t.d = -1) : ctorsL xs t = [] := if_pos h
theorem ctorsAt_get {xs : List Dt} {d : Nat} (h : d < xs.length) : ctorsAt xs (d : Int) = xs[d].ctors := by unfold ctorsAt; rw [Int.toNat_natCast, List.getElem?_eq_getElem h]
theorem ctorsL_data {xs : List Dt} {d : Nat} {i : Int} (h : d < xs.length) : ctorsL xs ⟨(d : Int), i⟩ = fitTo xs[d].ctors i xs[d].ctors.length := by
  unfold ctorsL
  rw [if_neg (by show ¬ ((d : Int) = -1); omega)]
  show fitTo (ctorsAt xs (d : Int)) i (ctorsAt xs (d : Int)).length = _
  rw [ctorsAt_get h]
def MadeNats (w : World) (xs : List Int) (e : Ending) (w' : World) : Prop := MadeArr NatR w xs e w'
theorem MadeNats.nil (w : World) : MadeNats w [] (.returned (.slice none 0 0)) w := ⟨_, [], rfl, Below.refl _ _, Arr.nil, Free.nil _, Fresh.nil _ _⟩
theorem Own.nats {w0 w : World} {B : Nat} {E : TypeId} {xs : List Int} {v : Value} (h : Own w B E 1 NatR xs v []) (hb : Below w0.heap.size w0 w) (hB : w0.heap.size ≤ B) : MadeNats w0 xs (.returned v) w :=
  h.gives hb hB (fun b hb => by cases hb) (Free.nil _)
theorem NatR_mono' {w w' : World} (x : Int) (cs : List Value) (F : List Nat) (hk : Kept F w w') (h : NatR w x cs F) : NatR w' x cs F := h
set_option maxRecDepth 100000 in
set_option maxHeartbeats 1600000 in
theorem impl_ctorsOf (xs : List Dt) (t : Ty) (w : World) (v : Value) (F : List Nat) (hx : Arr w (DtR w) xs v F) (hf : Under w.heap.size F) (hw : WorldOK xs) (ht : InWorld xs.length t) :
    Calls Try.prog 58 #[v, .agg #[.int .i64 t.d, .int .i64 t.i]] w (MadeNats w (ctorsL xs t)) := by
  obtain ⟨A, cap, rfl, hc1, hc2⟩ := hx.form
  have HX := Lib.hid hx
  have HF := Lib.hid hf
  clear hx hf
  rcases ht with hd | ⟨d, hd, hdl⟩
  · have hf := Lib.hid (ctorsL_int (xs := xs) hd)
    have t0 : (t.d != -1) = false := by simp [hd]
    clear hd
    go_enter Try.func58, Try.ntmps58
    go_wp2
    go_ret
    rw [hf.out]
    exact ⟨_, [], rfl, (Below.refl _ _).alloc (Nat.le_refl _) _, Arr.nil, Free.nil _, Fresh.nil _ _⟩
  · obtain ⟨t1, t2⟩ := t
    simp only at hd
    subst hd
    have hf := Lib.hid (ctorsL_data (i := t2) hdl)
    have t0 : ((d : Int) != -1) = true := by rw [bne_iff_ne]; omega
    obtain ⟨i0, hi, hz0, hz1, hz2⟩ := info_parts info_int
    have HI := Lib.hid hi
    have HZ0 := Lib.hid hz0
    have HZ1 := Lib.hid hz1
    have HZ2 := Lib.hid hz2
    clear hi hz0 hz1 hz2
    obtain ⟨b, off, rfl⟩ := HX.out.ptr (by omega)
    have hB0 : Below w.heap.size w (w.alloc (.cells #[.int .i64 (d : Int), .int .i64 t2] 33)) := (Below.refl _ _).alloc (Nat.le_refl _) _
    obtain ⟨A1, cap1, G1, hb, c0, c1, HK, HG, hs, hn1, hn2⟩ := ArrDt.at HX.out HF.out hB0 d hdl
    have g1 : (0 : Int) ≤ (d : Int) := by omega
    have g2 : (d : Int) < (xs.length : Int) := by omega
    have HL := Lib.hid (hw.at hdl).hi
    clear c0 hs
    go_enter Try.func58, Try.ntmps58
    go_wp2
    clear c1 hb
    go_loopw [5, 18] (fun ov iv wr => ∃ k : Nat, k ≤ xs[d].ctors.length ∧ iv = .int .i64 k ∧ Hid (Own wr (w.heap.size + 1) 3 1 NatR (fitTo xs[d].ctors t2 k) ov []) ∧ Below w.heap.size w wr ∧ Hid (Blk wr w.heap.size 33 #[.int .i64 (d : Int), .int .i64 t2])) (fun _ iv _ => xs[d].ctors.length - (intOf iv).toNat)
    case atStart => exact ⟨0, Nat.zero_le _, rfl, (show Own _ _ _ _ _ [] _ _ from Own.nil _ _ _ _ _), hB0, Blk.new _ _ _⟩
    case round =>
      clear hB0
      obtain ⟨k, hk, rfl, HO, hB, KT⟩ := hrel
      by_cases hkl : k < xs[d].ctors.length
      · obtain ⟨b2, off2, rfl⟩ := HK.out.ptr (by omega)
        obtain ⟨A3, cap3, G3, hb3, k0, k1, k2, HC, HG3, -, -, -⟩ := ArrKt.rep HK.out HG.out hB k hkl
        have g3 : (0 : Int) ≤ (k : Int) := by omega
        have g4 : (k : Int) < (xs[d].ctors.length : Int) := by omega
        have y1 : wr.cell? ⟨w.heap.size, 1, none⟩ = some (.int .i64 t2) := (KT.out.cell 1).trans (by simp)
        have hy1 := KT.out.lt
        have hb1 : Below wr.heap.size wr (wr.alloc (.cells #[.string xs[d].ctors[k].name, .slice A3 xs[d].ctors[k].args.length cap3, .int .i64 xs[d].ctors[k].idx] 68)) := (Below.refl _ _).alloc (Nat.le_refl _) _
        have hB1 := hB.trans (hb1.mono hB.size)
        have HO1 := Lib.hid (HO.out.below (fun x cs G hk h => NatR_mono _ _ x cs G hk h) hb1)
        have KT1 : Hid (Blk (wr.alloc (.cells #[.string xs[d].ctors[k].name, .slice A3 xs[d].ctors[k].args.length cap3, .int .i64 xs[d].ctors[k].idx] 68)) w.heap.size 33 #[.int .i64 (d : Int), .int .i64 t2]) := KT.out.same (hb1.block _ KT.out.lt)
        have hsz1 : wr.heap.size ≤ (wr.alloc (.cells #[.string xs[d].ctors[k].name, .slice A3 xs[d].ctors[k].args.length cap3, .int .i64 xs[d].ctors[k].idx] 68)).heap.size := hb1.size
        have hz1' : w.heap.size + 1 ≤ wr.heap.size := KT.out.lt
        cases q0 : (t2 == 0) with
        | true =>
          have e1 : fitsB xs[d].ctors[k] t2 = true := by unfold fitsB; rw [q0, Bool.true_or, Bool.or_true]
          have HF2 := Lib.hid (fitTo_yes hkl e1)
          clear e1
          have hlen := fitTo_len xs[d].ctors t2 k
          go_wp2_with (at_builtin; refine Halt.mk ?_)
          refine Halt.of (wpList_push1 (P := Try.prog) rfl _ _ 36 rfl i0 _ 8 Try.underlying36 HI.out HZ0.out HZ1.out HZ2.out rfl Nat.zero_lt_one NatR_len NatR_mono (by rfl) HO1.out (k : Int) 3 [.int .i64 (k : Int)] [] _ (by rfl) (by simp) (by simp [Value.oneCell']) ⟨rfl, rfl⟩ (Under.nil _) (fun _ _ h => by cases h) (by have := HL.out; unfold maxLen; omega) (by have := HL.out; omega) (Nat.le_trans hz1' hsz1) ?_)
          intro g cp w3 hown3 hgr3 hat3
          have hrow := HO1.out.row
          have hB3 : Below w.heap.size w w3 := (hB1.alloc hB1.size _).grown hgr3 (by have := hB1.size; simp; omega) (fun g hg => by have := hrow g (mem_rowOf.2 hg); omega)
          have HO3 := Lib.hid hown3
          have KT3 : Hid (Blk w3 w.heap.size 33 #[.int .i64 (d : Int), .int .i64 t2]) := (KT1.out.same (Below.heap_alloc _ _ _ KT1.out.lt)).same (hgr3.block _ (by have := KT1.out.lt; simp; omega) (fun e => by have := hrow _ (mem_rowOf.2 e.symm); omega))
          have hsz3 := hgr3.size
          clear hown3 hgr3 hat3 hrow hlen
          go_wp2
          go_roundw
          case rel => exact ⟨k + 1, by omega, by go_num, (by rw [HF2.out]; exact HO3.out), hB3, KT3⟩
          case measure => (simp [intOf] <;> omega)
        | false =>
          cases q1 : (xs[d].ctors[k].idx == 0) with
          | true =>
            have e1 : fitsB xs[d].ctors[k] t2 = true := by unfold fitsB; rw [q1, Bool.true_or]
            have HF2 := Lib.hid (fitTo_yes hkl e1)
            clear e1
            have hlen := fitTo_len xs[d].ctors t2 k
            go_wp2_with (at_builtin; refine Halt.mk ?_)
            refine Halt.of (wpList_push1 (P := Try.prog) rfl _ _ 36 rfl i0 _ 8 Try.underlying36 HI.out HZ0.out HZ1.out HZ2.out rfl Nat.zero_lt_one NatR_len NatR_mono (by rfl) HO1.out (k : Int) 3 [.int .i64 (k : Int)] [] _ (by rfl) (by simp) (by simp [Value.oneCell']) ⟨rfl, rfl⟩ (Under.nil _) (fun _ _ h => by cases h) (by have := HL.out; unfold maxLen; omega) (by have := HL.out; omega) (Nat.le_trans hz1' hsz1) ?_)
            intro g cp w3 hown3 hgr3 hat3
            have hrow := HO1.out.row
            have hB3 : Below w.heap.size w w3 := (hB1.alloc hB1.size _).grown hgr3 (by have := hB1.size; simp; omega) (fun g hg => by have := hrow g (mem_rowOf.2 hg); omega)
            have HO3 := Lib.hid hown3
            have KT3 : Hid (Blk w3 w.heap.size 33 #[.int .i64 (d : Int), .int .i64 t2]) := (KT1.out.same (Below.heap_alloc _ _ _ KT1.out.lt)).same (hgr3.block _ (by have := KT1.out.lt; simp; omega) (fun e => by have := hrow _ (mem_rowOf.2 e.symm); omega))
            have hsz3 := hgr3.size
            clear hown3 hgr3 hat3 hrow hlen
            go_wp2
            go_roundw
            case rel => exact ⟨k + 1, by omega, by go_num, (by rw [HF2.out]; exact HO3.out), hB3, KT3⟩
            case measure => (simp [intOf] <;> omega)
          | false =>
            cases q2 : (xs[d].ctors[k].idx == t2) with
            | true =>
              have e1 : fitsB xs[d].ctors[k] t2 = true := by unfold fitsB; rw [q0, q1, q2]; rfl
              have HF2 := Lib.hid (fitTo_yes hkl e1)
              clear e1
              have hlen := fitTo_len xs[d].ctors t2 k
              go_wp2_with (at_builtin; refine Halt.mk ?_)
              refine Halt.of (wpList_push1 (P := Try.prog) rfl _ _ 36 rfl i0 _ 8 Try.underlying36 HI.out HZ0.out HZ1.out HZ2.out rfl Nat.zero_lt_one NatR_len NatR_mono (by rfl) HO1.out (k : Int) 3 [.int .i64 (k : Int)] [] _ (by rfl) (by simp) (by simp [Value.oneCell']) ⟨rfl, rfl⟩ (Under.nil _) (fun _ _ h => by cases h) (by have := HL.out; unfold maxLen; omega) (by have := HL.out; omega) (Nat.le_trans hz1' hsz1) ?_)
              intro g cp w3 hown3 hgr3 hat3
              have hrow := HO1.out.row
              have hB3 : Below w.heap.size w w3 := (hB1.alloc hB1.size _).grown hgr3 (by have := hB1.size; simp; omega) (fun g hg => by have := hrow g (mem_rowOf.2 hg); omega)
              have HO3 := Lib.hid hown3
              have KT3 : Hid (Blk w3 w.heap.size 33 #[.int .i64 (d : Int), .int .i64 t2]) := (KT1.out.same (Below.heap_alloc _ _ _ KT1.out.lt)).same (hgr3.block _ (by have := KT1.out.lt; simp; omega) (fun e => by have := hrow _ (mem_rowOf.2 e.symm); omega))
              have hsz3 := hgr3.size
              clear hown3 hgr3 hat3 hrow hlen
              go_wp2
              go_roundw
              case rel => exact ⟨k + 1, by omega, by go_num, (by rw [HF2.out]; exact HO3.out), hB3, KT3⟩
              case measure => (simp [intOf] <;> omega)
            | false =>
              have e1 : fitsB xs[d].ctors[k] t2 = false := by unfold fitsB; rw [q0, q1, q2]; rfl
              have HF2 := Lib.hid (fitTo_no hkl e1)
              clear e1
              go_wp2
              go_roundw
              case rel => exact ⟨k + 1, by omega, by go_num, (by rw [HF2.out]; exact HO1.out), hB1, KT1⟩
              case measure => (simp [intOf] <;> omega)
      · have hfin : MadeNats w (ctorsL xs ⟨(d : Int), t2⟩) (.returned u5) wr := by
          rw [hf.out]
          have h := HO.out
          rw [show k = xs[d].ctors.length by omega] at h
          exact h.nats hB (by omega)
        have HFin := Lib.hid hfin
        clear hfin
        go_wp2
        go_ret
        exact HFin.out
end Go.Proofs.Ytddjhneoacnkgaa

namespace Go.Proofs.Ytddjhneoacnkgaa
open Go.RowKit

/-- what CtorsOf gives -/
def ctorsOfL (xs : List Dt) (t : Ty) : List Int := if typeValidB xs t = true then ctorsL xs t else []
theorem sumBy_one {α : Type} {f : α → Nat} (h : ∀ x, f x = 1) (xs : List α) : sumBy f xs = xs.length := by
  induction xs with
  | nil => rfl
  | cons x xs ih => rw [sumBy, ih, h, List.length_cons]; omega
theorem ctorsOfL_len (xs : List Dt) (t : Ty) : (ctorsOfL xs t).length ≤ 4 := by
  unfold ctorsOfL
  split
  · rename_i h
    obtain ⟨hw, ht⟩ := typeValid_split h
    rcases typeOkB_in ht with hd | ⟨d, hd, hdl⟩
    · rw [ctorsL_int hd]; simp
    · obtain ⟨t1, t2⟩ := t
      simp only at hd
      subst hd
      rw [ctorsL_data hdl]
      exact Nat.le_trans (fitTo_len _ _ _) (hw.at hdl).hi
  · simp

set_option maxRecDepth 100000 in
set_option maxHeartbeats 1600000 in
theorem spec_l1Fits (c : Kt) (i : Int) (A : Option Addr) (n cap : Nat) (w : World) : Calls Try.prog 85 #[.agg #[.string c.name, .slice A n cap, .int .i64 c.idx], .int .i64 i] w fun e w' => e = .returned (.bool (fitsB c i)) ∧ Below w.heap.size w w' := by
  cases q1 : (c.idx == 0) with
  | true =>
    have hf : Hid (fitsB c i = true) := by unfold Hid fitsB; rw [q1, Bool.true_or]
    go_enter Try.func85, Try.ntmps85
    go_wp2
    go_ret
    exact ⟨ret_bool hf.out.symm, (Below.refl _ _).alloc (Nat.le_refl _) _⟩
  | false =>
    cases q0 : (i == 0) with
    | true =>
      have hf : Hid (fitsB c i = true) := by unfold Hid fitsB; rw [q0, Bool.true_or, Bool.or_true]
      go_enter Try.func85, Try.ntmps85
      go_wp2
      go_ret
      exact ⟨ret_bool hf.out.symm, (Below.refl _ _).alloc (Nat.le_refl _) _⟩
    | false =>
      have hf : Hid (fitsB c i = (c.idx == i)) := by unfold Hid fitsB; rw [q0, q1, Bool.false_or, Bool.false_or]
      go_enter Try.func85, Try.ntmps85
      go_wp2
      go_ret
      exact ⟨ret_bool hf.out.symm, (Below.refl _ _).alloc (Nat.le_refl _) _⟩
set_option maxRecDepth 100000 in
set_option maxHeartbeats 1600000 in
theorem spec_l1Ctors (xs : List Dt) (t : Ty) (w : World) (v : Value) (F : List Nat) (hx : Arr w (DtR w) xs v F) (hf : Under w.heap.size F) (hw : WorldOK xs) (ht : InWorld xs.length t) :
    Calls Try.prog 57 #[v, .agg #[.int .i64 t.d, .int .i64 t.i]] w (MadeNats w (ctorsL xs t)) := by
  obtain ⟨A, cap, rfl, hc1, hc2⟩ := hx.form
  have HX := Lib.hid hx
  have HF := Lib.hid hf
  clear hx hf
  rcases ht with hd | ⟨d, hd, hdl⟩
  · have hf := Lib.hid (ctorsL_int (xs := xs) hd)
    have t0 : (t.d == -1) = true := by simp [hd]
    clear hd
    go_enter Try.func57, Try.ntmps57
    go_wp2
    go_ret
    rw [hf.out]
    exact ⟨_, [], rfl, ((Below.refl _ _).alloc (Nat.le_refl _) _).alloc (by simp) _, ⟨_, _, rfl, by simp, by simp [maxLen], .inl ⟨rfl, rfl⟩⟩, Free.nil _, Fresh.nil _ _⟩
  · obtain ⟨t1, t2⟩ := t
    simp only at hd
    subst hd
    have hf := Lib.hid (ctorsL_data (i := t2) hdl)
    have t0 : ((d : Int) == -1) = false := by rw [beq_eq_false_iff_ne]; omega
    obtain ⟨i0, hi, hz0, hz1, hz2⟩ := info_parts info_int
    have HI := Lib.hid hi
    have HZ0 := Lib.hid hz0
    have HZ1 := Lib.hid hz1
    have HZ2 := Lib.hid hz2
    clear hi hz0 hz1 hz2
    obtain ⟨b, off, rfl⟩ := HX.out.ptr (by omega)
    have hB0 : Below w.heap.size w ((w.alloc (.cells #[.int .i64 (d : Int), .int .i64 t2] 33)).alloc (.cells #[] 3)) := ((Below.refl _ _).alloc (Nat.le_refl _) _).alloc (by simp) _
    have KT0 : Hid (Blk ((w.alloc (.cells #[.int .i64 (d : Int), .int .i64 t2] 33)).alloc (.cells #[] 3)) w.heap.size 33 #[.int .i64 (d : Int), .int .i64 t2]) := (Blk.new _ _ _).same (Below.heap_alloc _ _ _ (by simp))
    have HO0 : Hid (Own ((w.alloc (.cells #[.int .i64 (d : Int), .int .i64 t2] 33)).alloc (.cells #[] 3)) (w.heap.size + 1) 3 1 NatR ([] : List Int) (.slice (some ⟨w.heap.size + 1, 0, none⟩) 0 0) []) := by
      have h := Own.made (w.alloc (.cells #[.int .i64 (d : Int), .int .i64 t2] 33)) (w.heap.size + 1) 3 1 NatR #[] 0 (by simp) (by simp [maxLen]) rfl
      rwa [World.size_alloc] at h
    have g1 : (0 : Int) ≤ (d : Int) := by omega
    have g2 : (d : Int) < (xs.length : Int) := by omega
    have HL := Lib.hid (hw.at hdl).hi
    go_enter Try.func57, Try.ntmps57
    go_wp2
    go_loopw [5, 6] (fun ov iv wr => ∃ k : Nat, k ≤ xs[d].ctors.length ∧ iv = .int .i64 k ∧ Hid (Own wr (w.heap.size + 1) 3 1 NatR (fitTo xs[d].ctors t2 k) ov []) ∧ Below w.heap.size w wr ∧ Hid (Blk wr w.heap.size 33 #[.int .i64 (d : Int), .int .i64 t2])) (fun _ iv _ => xs[d].ctors.length - (intOf iv).toNat)
    case atStart => exact ⟨0, Nat.zero_le _, rfl, HO0, hB0, KT0⟩
    case round =>
      clear hB0 KT0 HO0
      obtain ⟨k, hk, rfl, HO, hB, KT⟩ := hrel
      obtain ⟨A1, cap1, G1, hb, c0, c1, HK, HG, hs, hn1, hn2⟩ := ArrDt.at HX.out HF.out hB d hdl
      clear c0 hs
      have y0 : wr.cell? ⟨w.heap.size, 0, none⟩ = some (.int .i64 (d : Int)) := (KT.out.cell 0).trans (by simp)
      have y1 : wr.cell? ⟨w.heap.size, 1, none⟩ = some (.int .i64 t2) := (KT.out.cell 1).trans (by simp)
      have hy1 := KT.out.lt
      by_cases hkl : k < xs[d].ctors.length
      · obtain ⟨b2, off2, rfl⟩ := HK.out.ptr (by omega)
        obtain ⟨A3, cap3, G3, hb3, k0, k1, k2, HC, HG3, -, -, -⟩ := ArrKt.rep HK.out HG.out hB k hkl
        have g3 : (0 : Int) ≤ (k : Int) := by omega
        have g4 : (k : Int) < (xs[d].ctors.length : Int) := by omega
        go_wp2_with fail
        have hkeep : ∀ U U' : World, (U.cell? ⟨w.heap.size, 0, none⟩ = some (.int .i64 (d : Int)) ∧ U.cell? ⟨w.heap.size, 1, none⟩ = some (.int .i64 t2) ∧ U.cell? ⟨b, off + d * 2 + 1, none⟩ = some (.slice (some ⟨b2, off2, none⟩) xs[d].ctors.length cap1) ∧ U.cell? ⟨b2, off2 + k * 3, none⟩ = some (.string xs[d].ctors[k].name) ∧ U.cell? ⟨b2, off2 + k * 3 + 1, none⟩ = some (.slice A3 xs[d].ctors[k].args.length cap3) ∧ U.cell? ⟨b2, off2 + k * 3 + 2, none⟩ = some (.int .i64 xs[d].ctors[k].idx)) → Below U.heap.size U U' → wr.heap.size ≤ U.heap.size → (U'.cell? ⟨w.heap.size, 0, none⟩ = some (.int .i64 (d : Int)) ∧ U'.cell? ⟨w.heap.size, 1, none⟩ = some (.int .i64 t2) ∧ U'.cell? ⟨b, off + d * 2 + 1, none⟩ = some (.slice (some ⟨b2, off2, none⟩) xs[d].ctors.length cap1) ∧ U'.cell? ⟨b2, off2 + k * 3, none⟩ = some (.string xs[d].ctors[k].name) ∧ U'.cell? ⟨b2, off2 + k * 3 + 1, none⟩ = some (.slice A3 xs[d].ctors[k].args.length cap3) ∧ U'.cell? ⟨b2, off2 + k * 3 + 2, none⟩ = some (.int .i64 xs[d].ctors[k].idx)) := fun U U' h hUU hU => ⟨(hUU.cell (Nat.lt_of_lt_of_le (KT.out.lt) hU)).trans h.1, (hUU.cell (Nat.lt_of_lt_of_le (KT.out.lt) hU)).trans h.2.1, (hUU.cell (Nat.lt_of_lt_of_le (hb) hU)).trans h.2.2.1, (hUU.cell (Nat.lt_of_lt_of_le (hb3) hU)).trans h.2.2.2.1, (hUU.cell (Nat.lt_of_lt_of_le (hb3) hU)).trans h.2.2.2.2.1, (hUU.cell (Nat.lt_of_lt_of_le (hb3) hU)).trans h.2.2.2.2.2⟩
        have HKeep := Lib.hid hkeep
        clear hkeep
        go_region_held3 (fun w' => w'.cell? ⟨w.heap.size, 0, none⟩ = some (.int .i64 (d : Int)) ∧ w'.cell? ⟨w.heap.size, 1, none⟩ = some (.int .i64 t2) ∧ w'.cell? ⟨b, off + d * 2 + 1, none⟩ = some (.slice (some ⟨b2, off2, none⟩) xs[d].ctors.length cap1) ∧ w'.cell? ⟨b2, off2 + k * 3, none⟩ = some (.string xs[d].ctors[k].name) ∧ w'.cell? ⟨b2, off2 + k * 3 + 1, none⟩ = some (.slice A3 xs[d].ctors[k].args.length cap3) ∧ w'.cell? ⟨b2, off2 + k * 3 + 2, none⟩ = some (.int .i64 xs[d].ctors[k].idx)) (first | assumption | (exact ⟨y0, y1, c1, k0, k1, k2⟩) | (exact HKeep.out wr.drew w' ⟨y0, y1, c1, k0, k1, k2⟩ hB' (Nat.le_refl _))) (first | (go_at_call 85; ((with_reducible refine (spec_l1Fits xs[d].ctors[k] t2 _ _ _ _).mono ?_); rintro e w' ⟨rfl, hB'⟩)))
        have hB1 := hB.drew.trans (hB'.mono hB.size)
        have HO1 : Hid (Own w' (w.heap.size + 1) 3 1 NatR (fitTo xs[d].ctors t2 k) u5 []) := Own.below (fun x cs G hk h => NatR_mono _ _ x cs G hk h) (w := wr) HO.out (below_undrew hB')
        have KT1 : Hid (Blk w' w.heap.size 33 #[.int .i64 (d : Int), .int .i64 t2]) := KT.out.same (hB'.block _ KT.out.lt)
        have hsz1 : wr.heap.size ≤ w'.heap.size := hB'.size
        have hz1' : w.heap.size + 1 ≤ wr.heap.size := KT.out.lt
        clear HKeep
        cases e1 : fitsB xs[d].ctors[k] t2 with
        | false =>
          have HF2 := Lib.hid (fitTo_no hkl e1)
          clear e1
          go_wp2
          go_roundw
          case rel => exact ⟨k + 1, by omega, by go_num, (by rw [HF2.out]; exact HO1.out), hB1, KT1⟩
          case measure => (simp [intOf] <;> omega)
        | true =>
          have HF2 := Lib.hid (fitTo_yes hkl e1)
          clear e1
          have hlen := fitTo_len xs[d].ctors t2 k
          go_wp2_with (at_builtin; refine Halt.mk ?_)
          refine Halt.of (wpList_push1 (P := Try.prog) rfl _ _ 36 rfl i0 _ 8 Try.underlying36 HI.out HZ0.out HZ1.out HZ2.out rfl Nat.zero_lt_one NatR_len NatR_mono (by rfl) HO1.out (k : Int) 3 [.int .i64 (k : Int)] [] _ (by rfl) (by simp) (by simp [Value.oneCell']) ⟨rfl, rfl⟩ (Under.nil _) (fun _ _ h => by cases h) (by have := HL.out; unfold maxLen; omega) (by have := HL.out; omega) (Nat.le_trans hz1' hsz1) ?_)
          intro g cp w3 hown3 hgr3 hat3
          have hrow := HO1.out.row
          have hB3 : Below w.heap.size w w3 := (hB1.alloc hB1.size _).grown hgr3 (by have := hB1.size; simp; omega) (fun g hg => by have := hrow g (mem_rowOf.2 hg); omega)
          have HO3 := Lib.hid hown3
          have KT3 : Hid (Blk w3 w.heap.size 33 #[.int .i64 (d : Int), .int .i64 t2]) := (KT1.out.same (Below.heap_alloc _ _ _ KT1.out.lt)).same (hgr3.block _ (by have := KT1.out.lt; simp; omega) (fun e => by have := hrow _ (mem_rowOf.2 e.symm); omega))
          have hsz3 := hgr3.size
          clear hown3 hgr3 hat3 hrow hlen
          go_wp2
          go_roundw
          case rel => exact ⟨k + 1, by omega, by go_num, (by rw [HF2.out]; exact HO3.out), hB3, KT3⟩
          case measure => (simp [intOf] <;> omega)
      · have hfin : MadeNats w (ctorsL xs ⟨(d : Int), t2⟩) (.returned u5) wr := by
          rw [hf.out]
          have h := HO.out
          rw [show k = xs[d].ctors.length by omega] at h
          exact h.nats hB (by omega)
        have HFin := Lib.hid hfin
        clear hfin
        go_wp2
        go_ret
        exact HFin.out
set_option maxRecDepth 100000 in
set_option maxHeartbeats 1600000 in
theorem spec_CtorsOf (xs : List Dt) (t : Ty) (w : World) (v : Value) (F : List Nat) (hx : Arr w (DtR w) xs v F) (hf : Under w.heap.size F) :
    Calls Try.prog 21 #[v, .agg #[.int .i64 t.d, .int .i64 t.i]] w (MadeNats w (ctorsOfL xs t)) := by
  obtain ⟨A, cap, rfl, hc1, hc2⟩ := hx.form
  have HX := Lib.hid hx
  have HF := Lib.hid hf
  clear hx hf
  go_enter Try.func21, Try.ntmps21
  go_wp2_with fail
  obtain ⟨W2, hW2⟩ : ∃ W2, W2 = w.alloc (.cells #[.int .i64 t.d, .int .i64 t.i] 33) := ⟨_, rfl⟩
  have hB2 : Below w.heap.size w W2 := by rw [hW2]; exact (Below.refl _ _).alloc (Nat.le_refl _) _
  have k1 : Blk W2 w.heap.size 33 #[.int .i64 t.d, .int .i64 t.i] := by rw [hW2]; exact Blk.new _ _ _
  rw [← hW2]
  clear hW2
  refine (spec_TypeValid xs t W2 _ F (ArrDt.below HX.out hB2 HF.out) (HF.out.mono hB2.size)).mono ?_
  rintro e w' ⟨rfl, hB'⟩
  have hB3 := hB2.trans (hB'.mono hB2.size)
  have k2 := k1.same (hB'.block _ k1.lt)
  have x0 : w'.cell? ⟨w.heap.size, 0, none⟩ = some (.int .i64 t.d) := (k2.cell 0).trans (by simp)
  have x1 : w'.cell? ⟨w.heap.size, 1, none⟩ = some (.int .i64 t.i) := (k2.cell 1).trans (by simp)
  have hlt := k2.lt
  clear k1 k2
  cases h1 : typeValidB xs t with
  | false =>
    have hf : Hid (ctorsOfL xs t = []) := by unfold Hid ctorsOfL; rw [if_neg (by simp [h1])]
    clear h1
    go_wp2
    go_ret
    rw [hf.out]
    exact ⟨_, [], rfl, hB3.alloc hB3.size _, ⟨_, _, rfl, by simp, by simp [maxLen], .inl ⟨rfl, rfl⟩⟩, Free.nil _, Fresh.nil _ _⟩
  | true =>
    have hf : Hid (ctorsOfL xs t = ctorsL xs t) := by unfold Hid ctorsOfL; rw [if_pos h1]
    obtain ⟨hw, hto⟩ := typeValid_split h1
    have HW := Lib.hid hw
    have HT := Lib.hid (typeOkB_in hto)
    clear h1 hw hto
    go_wp2_with fail
    refine (spec_l1Ctors xs t w' _ F (ArrDt.below HX.out hB3 HF.out) (HF.out.mono hB3.size) HW.out HT.out).mono ?_
    rintro e w2 ⟨v2, F2, rfl, hB4, ha2, hfr2, hfs2⟩
    have hfin : MadeNats w (ctorsOfL xs t) (.returned v2) w2 := by
      rw [hf.out]
      exact ⟨v2, F2, rfl, hB3.trans (hB4.mono hB3.size), ha2, hfr2, fun b hb => ⟨Nat.le_trans hB3.size (hfs2 b hb).1, (hfs2 b hb).2⟩⟩
    have HFin := Lib.hid hfin
    clear hfin hB4 ha2 hfr2 hfs2
    go_wp2
    go_ret
    exact HFin.out
set_option maxRecDepth 100000 in
set_option maxHeartbeats 1600000 in
theorem impl_CtorsOf (xs : List Dt) (t : Ty) (w : World) (v : Value) (F : List Nat) (hx : Arr w (DtR w) xs v F) (hf : Under w.heap.size F) :
    Calls Try.prog 22 #[v, .agg #[.int .i64 t.d, .int .i64 t.i]] w (MadeNats w (ctorsOfL xs t)) := by
  obtain ⟨A, cap, rfl, hc1, hc2⟩ := hx.form
  have HX := Lib.hid hx
  have HF := Lib.hid hf
  clear hx hf
  go_enter Try.func22, Try.ntmps22
  go_wp2_with fail
  obtain ⟨W2, hW2⟩ : ∃ W2, W2 = w.alloc (.cells #[.int .i64 t.d, .int .i64 t.i] 33) := ⟨_, rfl⟩
  have hB2 : Below w.heap.size w W2 := by rw [hW2]; exact (Below.refl _ _).alloc (Nat.le_refl _) _
  have k1 : Blk W2 w.heap.size 33 #[.int .i64 t.d, .int .i64 t.i] := by rw [hW2]; exact Blk.new _ _ _
  rw [← hW2]
  clear hW2
  refine (impl_TypeValid xs t W2 _ F (ArrDt.below HX.out hB2 HF.out) (HF.out.mono hB2.size)).mono ?_
  rintro e w' ⟨rfl, hB'⟩
  have hB3 := hB2.trans (hB'.mono hB2.size)
  have k2 := k1.same (hB'.block _ k1.lt)
  have x0 : w'.cell? ⟨w.heap.size, 0, none⟩ = some (.int .i64 t.d) := (k2.cell 0).trans (by simp)
  have x1 : w'.cell? ⟨w.heap.size, 1, none⟩ = some (.int .i64 t.i) := (k2.cell 1).trans (by simp)
  have hlt := k2.lt
  clear k1 k2
  cases h1 : typeValidB xs t with
  | false =>
    have hf : Hid (ctorsOfL xs t = []) := by unfold Hid ctorsOfL; rw [if_neg (by simp [h1])]
    clear h1
    go_wp2
    go_ret
    rw [hf.out]
    exact ⟨_, [], rfl, hB3, Arr.nil, Free.nil _, Fresh.nil _ _⟩
  | true =>
    have hf : Hid (ctorsOfL xs t = ctorsL xs t) := by unfold Hid ctorsOfL; rw [if_pos h1]
    obtain ⟨hw, hto⟩ := typeValid_split h1
    have HW := Lib.hid hw
    have HT := Lib.hid (typeOkB_in hto)
    clear h1 hw hto
    go_wp2_with fail
    refine (impl_ctorsOf xs t w' _ F (ArrDt.below HX.out hB3 HF.out) (HF.out.mono hB3.size) HW.out HT.out).mono ?_
    rintro e w2 ⟨v2, F2, rfl, hB4, ha2, hfr2, hfs2⟩
    have hfin : MadeNats w (ctorsOfL xs t) (.returned v2) w2 := by
      rw [hf.out]
      exact ⟨v2, F2, rfl, hB3.trans (hB4.mono hB3.size), ha2, hfr2, fun b hb => ⟨Nat.le_trans hB3.size (hfs2 b hb).1, (hfs2 b hb).2⟩⟩
    have HFin := Lib.hid hfin
    clear hfin hB4 ha2 hfr2 hfs2
    go_wp2
    go_ret
    exact HFin.out
end Go.Proofs.Ytddjhneoacnkgaa

namespace Go.Proofs.Ytddjhneoacnkgaa
open Go.RowKit

theorem ArrNat.at {w0 w : World} {b off n cap : Nat} {F : List Nat} {xs : List Int} (h : Arr w0 (NatR w0) xs (.slice (some ⟨b, off, none⟩) n cap) F) (hF : Under w0.heap.size F) (hB : Below w0.heap.size w0 w) (i : Nat) (hi : i < xs.length) :
    b < w.heap.size ∧ w.cell? ⟨b, off + i, none⟩ = some (.int .i64 xs[i]) := by
  obtain ⟨b', off', cs, G, e, hb, hcs, hv, hG⟩ := h.get (NatR_len _) hi
  cases e
  have hbl := hF _ hb
  have hc := hcs.same (hB.block _ hbl)
  obtain ⟨rfl, -⟩ := hv
  have := hc 0 _ rfl
  rw [Nat.mul_one] at this
  exact ⟨Nat.lt_of_lt_of_le hbl hB.size, this⟩
theorem ArrNat.below {w w' : World} {B : Nat} {vs : List Int} {x : Value} {F : List Nat} (h : Arr w (NatR w) vs x F) (hb : Below B w w') (hF : Under B F) : Arr w' (NatR w') vs x F := h.mono (.of_below hb hF) fun v _ cs G hk h => NatR_mono _ _ v cs G hk h
theorem ArrNat.kept {w w' : World} {vs : List Int} {x : Value} {F : List Nat} (h : Arr w (NatR w) vs x F) (hF : Kept F w w') : Arr w' (NatR w') vs x F := h.mono hF fun v _ cs G hk h => NatR_mono _ _ v cs G hk h
theorem ArrNat.drew {w : World} {vs : List Int} {x : Value} {F : List Nat} (h : Arr w (NatR w) vs x F) : Arr w.drew (NatR w.drew) vs x F := ArrNat.kept (w := w) h (fun _ _ => rfl)

set_option maxRecDepth 100000 in
set_option maxHeartbeats 1600000 in
theorem eqIntS_any (xs : List Int) (w : World) (F F2 : List Nat) (x y : Value) (hx : Arr w (NatR w) xs x F) (hy : Arr w (NatR w) xs y F2) (hf : Under w.heap.size F) (hg : Under w.heap.size F2) :
    Calls Try.prog 23 #[x, y] w fun e w' => e = .returned (.bool true) ∧ Below w.heap.size w w' := by
  obtain ⟨A, cap, rfl, hc1, hc2⟩ := hx.form
  obtain ⟨A', cap', rfl, hc3, hc4⟩ := hy.form
  have HX := Lib.hid hx
  have HF := Lib.hid hf
  have HY := Lib.hid hy
  have HG := Lib.hid hg
  clear hx hf hy hg
  go_enter Try.func23, Try.ntmps23
  go_wp2
  go_loopw [5] (fun i wr => ∃ k : Nat, k ≤ xs.length ∧ i = .int .i64 k ∧ Below w.heap.size w wr) (fun i _ => xs.length - (intOf i).toNat)
  case atStart => exact ⟨0, Nat.zero_le _, rfl, Below.refl _ _⟩
  case round =>
    obtain ⟨k, hk, rfl, hB⟩ := hrel
    by_cases hlt : k < xs.length
    · have g1 : (0 : Int) ≤ (k : Int) := by omega
      have g2 : (k : Int) < (xs.length : Int) := by omega
      obtain ⟨b, off, rfl⟩ := HX.out.ptr (by omega)
      obtain ⟨b2, off2, rfl⟩ := HY.out.ptr (by omega)
      obtain ⟨hb, c0⟩ := ArrNat.at HX.out HF.out hB k hlt
      obtain ⟨hb2, d0⟩ := ArrNat.at HY.out HG.out hB k hlt
      have HBq := Lib.hid (fun n => below_drewN hB n)
      go_wp2_with fail
      go_quiet (fail)
      go_wp2
      go_roundw
      case rel => exact ⟨k + 1, by omega, by go_num, HBq.out _⟩
      case measure => (simp [intOf] <;> omega)
    · go_wp2
      go_ret
      exact ⟨rfl, hB⟩
end Go.Proofs.Ytddjhneoacnkgaa

namespace Go.Proofs.Ytddjhneoacnkgaa
open Go.RowKit

def hasB (xs : List Int) (n : Int) : Bool := xs.any fun x => n == x
theorem hasB_iff (xs : List Int) (n : Int) : hasB xs n = true ↔ n ∈ xs := by
  unfold hasB
  rw [List.any_eq_true]
  exact ⟨fun ⟨x, h, e⟩ => by rw [beq_iff_eq] at e; rw [e]; exact h, fun h => ⟨n, h, by simp⟩⟩

set_option maxRecDepth 100000 in
set_option maxHeartbeats 1600000 in
theorem Index_int (xs : List Int) (n r : Int) (hr : FirstAt (fun x => n == x) xs r) (w : World) (x : Value) (F : List Nat) (hx : Arr w (NatR w) xs x F) (hf : Under w.heap.size F) :
    Calls Try.prog 90 #[x, .int .i64 n] w fun e w' => e = .returned (.int .i64 r) ∧ Below w.heap.size w w' := by
  obtain ⟨A, cap, rfl, hc1, hc2⟩ := hx.form
  have HX := Lib.hid hx
  have HF := Lib.hid hf
  have HR := Lib.hid hr
  clear hx hf hr
  go_enter Try.func90, Try.ntmps90
  go_wp2
  go_loopw [8] (fun i wr => ∃ k : Nat, k ≤ xs.length ∧ i = .int .i64 k ∧ Hid (∀ j (hj : j < xs.length), j < k → (n == xs[j]) = false) ∧ Below w.heap.size w wr) (fun i _ => xs.length - (intOf i).toNat)
  case atStart => exact ⟨0, Nat.zero_le _, rfl, fun j hj h => by omega, Below.refl _ _⟩
  case round =>
    obtain ⟨k, hk, rfl, HT, hB⟩ := hrel
    by_cases hlt : k < xs.length
    · have g1 : (0 : Int) ≤ (k : Int) := by omega
      have g2 : (k : Int) < (xs.length : Int) := by omega
      obtain ⟨b, off, rfl⟩ := HX.out.ptr (by omega)
      obtain ⟨hb, c0⟩ := ArrNat.at HX.out HF.out hB k hlt
      cases hq : (n == xs[k]) with
      | true =>
        have hf := Lib.hid (HR.out.hit hlt hq (fun j hj h => HT.out j hj h))
        go_wp2
        go_ret
        exact ⟨ret_int hf.out.symm, hB⟩
      | false =>
        have hT2 : Hid (∀ j (hj : j < xs.length), j < k + 1 → (n == xs[j]) = false) := fun j hj h => by
          rcases Nat.lt_or_ge j k with h2 | h2
          · exact HT.out j hj h2
          · obtain rfl : j = k := by omega
            exact hq
        go_wp2
        go_roundw
        case rel => exact ⟨k + 1, by omega, by go_num, hT2, hB⟩
        case measure => (simp [intOf] <;> omega)
    · have hf : Hid (r = -1) := HR.out.miss (fun j hj => HT.out j hj (by omega))
      go_wp2
      go_ret
      exact ⟨ret_int hf.out.symm, hB⟩

set_option maxRecDepth 100000 in
set_option maxHeartbeats 1600000 in
theorem impl_has (xs : List Int) (n : Int) (w : World) (x : Value) (F : List Nat) (hx : Arr w (NatR w) xs x F) (hf : Under w.heap.size F) :
    Calls Try.prog 67 #[x, .int .i64 n] w fun e w' => e = .returned (.bool (hasB xs n)) ∧ Below w.heap.size w w' := by
  obtain ⟨r, hr⟩ := FirstAt.ex (fun x => n == x) xs
  have hres : Hid (hasB xs n = decide (0 ≤ r)) := hr.any
  have hcall := Index_int xs n r hr w x F hx hf
  obtain ⟨A, cap, rfl, hc1, hc2⟩ := hx.form
  have HC := Lib.hid hcall
  clear hcall hr hx hf
  go_enter Try.func67, Try.ntmps67
  go_wp2_with fail
  refine HC.out.mono ?_
  rintro e w' ⟨rfl, hB'⟩
  go_wp2
  go_ret
  exact ⟨ret_bool hres.out.symm, hB'⟩
theorem any_drop {α : Type} (p : α → Bool) (l : List α) (k : Nat) (h : k < l.length) : (l.drop k).any p = (p l[k] || (l.drop (k + 1)).any p) := by
  rw [List.drop_eq_getElem_cons h]; rfl

set_option maxRecDepth 100000 in
set_option maxHeartbeats 1600000 in
theorem spec_l1Has (xs : List Int) (n : Int) (w : World) (x : Value) (F : List Nat) (hx : Arr w (NatR w) xs x F) (hf : Under w.heap.size F) :
    Calls Try.prog 65 #[x, .int .i64 n] w fun e w' => e = .returned (.bool (hasB xs n)) ∧ Below w.heap.size w w' := by
  obtain ⟨A, cap, rfl, hc1, hc2⟩ := hx.form
  have HX := Lib.hid hx
  have HF := Lib.hid hf
  clear hx hf
  go_enter Try.func65, Try.ntmps65
  go_wp2
  go_loopw [5] (fun i wr => ∃ k : Nat, k ≤ xs.length ∧ i = .int .i64 k ∧ Hid (hasB xs n = (xs.drop k).any fun x => n == x) ∧ Below w.heap.size w wr) (fun i _ => xs.length - (intOf i).toNat)
  case atStart => exact ⟨0, Nat.zero_le _, rfl, (show hasB xs n = hasB xs n from rfl), Below.refl _ _⟩
  case round =>
    obtain ⟨k, hk, rfl, HT, hB⟩ := hrel
    by_cases hlt : k < xs.length
    · have g1 : (0 : Int) ≤ (k : Int) := by omega
      have g2 : (k : Int) < (xs.length : Int) := by omega
      obtain ⟨b, off, rfl⟩ := HX.out.ptr (by omega)
      obtain ⟨hb, c0⟩ := ArrNat.at HX.out HF.out hB k hlt
      have hd := HT.out
      rw [any_drop _ xs k hlt] at hd
      cases hq : (xs[k] == n) with
      | true =>
        have hq2 : (n == xs[k]) = true := by rw [beq_iff_eq] at hq ⊢; exact hq.symm
        rw [hq2, Bool.true_or] at hd
        have hf := Lib.hid hd
        clear hd hq2
        go_wp2
        go_ret
        exact ⟨ret_bool hf.out.symm, hB⟩
      | false =>
        have hq2 : (n == xs[k]) = false := by rw [beq_eq_false_iff_ne] at hq ⊢; exact fun e => hq e.symm
        rw [hq2, Bool.false_or] at hd
        have HT2 := Lib.hid hd
        clear hd hq2
        go_wp2
        go_roundw
        case rel => exact ⟨k + 1, by omega, by go_num, HT2, hB⟩
        case measure => (simp [intOf] <;> omega)
    · have hd := HT.out
      rw [List.drop_of_length_le (by omega)] at hd
      have hf := Lib.hid hd
      clear hd
      go_wp2
      go_ret
      exact ⟨ret_bool hf.out.symm, hB⟩
end Go.Proofs.Ytddjhneoacnkgaa

namespace Go.Proofs.Ytddjhneoacnkgaa
open Go.RowKit

def ctorAt (xs : List Dt) (t : Ty) (k : Int) : Option Kt := (ctorsAt xs t.d)[k.toNat]?
/-- the types of the arguments of constructor k for type t -/
def argsOf (xs : List Dt) (t : Ty) (k : Int) : List Ty := match ctorAt xs t k with | some c => argsL c t.i | none => []
def argTypesL (xs : List Dt) (t : Ty) (k : Int) : List Ty := if hasB (ctorsOfL xs t) k = true then argsOf xs t k else []
theorem argsOf_get {xs : List Dt} {d k : Nat} {i : Int} (hd : d < xs.length) (hk : k < xs[d].ctors.length) : argsOf xs ⟨(d : Int), i⟩ (k : Int) = argsL xs[d].ctors[k] i := by
  unfold argsOf ctorAt
  simp only
  rw [ctorsAt_get hd, Int.toNat_natCast, List.getElem?_eq_getElem hk]
theorem mem_fitTo {cs : List Kt} {i : Int} {m : Nat} {n : Int} (h : n ∈ fitTo cs i m) : ∃ k : Nat, n = (k : Int) ∧ k < m := by
  unfold fitTo at h
  obtain ⟨k, hk, rfl⟩ := List.mem_map.1 h
  have := (List.mem_filter.1 hk).1
  exact ⟨k, rfl, by simpa using this⟩
theorem mem_ctorsL {xs : List Dt} {t : Ty} {n : Int} (ht : InWorld xs.length t) (h : n ∈ ctorsL xs t) : ∃ d k : Nat, t.d = (d : Int) ∧ n = (k : Int) ∧ ∃ hd : d < xs.length, k < xs[d].ctors.length := by
  rcases ht with hd | ⟨d, hd, hdl⟩
  · rw [ctorsL_int hd] at h; cases h
  · obtain ⟨t1, t2⟩ := t
    simp only at hd
    subst hd
    rw [ctorsL_data hdl] at h
    obtain ⟨k, rfl, hk⟩ := mem_fitTo h
    exact ⟨d, k, rfl, rfl, hdl, hk⟩
theorem argTypesL_no {xs : List Dt} {t : Ty} {k : Int} (h : hasB (ctorsOfL xs t) k = false) : argTypesL xs t k = [] := if_neg (by simp [h])
theorem argTypesL_yes {xs : List Dt} {t : Ty} {k : Int} (h : hasB (ctorsOfL xs t) k = true) : argTypesL xs t k = argsOf xs t k ∧ WorldOK xs ∧ ∃ (d m : Nat) (hd : d < xs.length), t.d = (d : Int) ∧ k = (m : Int) ∧ m < xs[d].ctors.length := by
  refine ⟨if_pos h, ?_⟩
  rw [hasB_iff] at h
  unfold ctorsOfL at h
  split at h
  · rename_i hv
    obtain ⟨hw, hto⟩ := typeValid_split hv
    obtain ⟨d, m, h1, h2, hd, hm⟩ := mem_ctorsL (typeOkB_in hto) h
    exact ⟨hw, d, m, hd, h1, h2, hm⟩
  · cases h
theorem argTypesL_len (xs : List Dt) (t : Ty) (k : Int) : (argTypesL xs t k).length ≤ 3 := by
  cases h : hasB (ctorsOfL xs t) k with
  | false => rw [argTypesL_no h]; simp
  | true =>
    obtain ⟨e, hw, d, m, hd, h1, h2, hm⟩ := argTypesL_yes h
    obtain ⟨t1, t2⟩ := t
    simp only at h1
    subst h1 h2
    rw [e, argsOf_get hd hm, argsL_len]
    exact (hw.ctor hd hm).args

set_option maxRecDepth 100000 in
set_option maxHeartbeats 1600000 in
theorem spec_ArgTypes (xs : List Dt) (t : Ty) (n : Int) (w : World) (v : Value) (F : List Nat) (hx : Arr w (DtR w) xs v F) (hf : Under w.heap.size F) :
    Calls Try.prog 31 #[v, .agg #[.int .i64 t.d, .int .i64 t.i], .int .i64 n] w (GivesTys w (argTypesL xs t n)) := by
  obtain ⟨A, cap, rfl, hc1, hc2⟩ := hx.form
  have HX := Lib.hid hx
  have HF := Lib.hid hf
  clear hx hf
  go_enter Try.func31, Try.ntmps31
  go_wp2_with fail
  obtain ⟨W2, hW2⟩ : ∃ W2, W2 = w.alloc (.cells #[.int .i64 t.d, .int .i64 t.i] 33) := ⟨_, rfl⟩
  have hB2 : Below w.heap.size w W2 := by rw [hW2]; exact (Below.refl _ _).alloc (Nat.le_refl _) _
  have k1 : Blk W2 w.heap.size 33 #[.int .i64 t.d, .int .i64 t.i] := by rw [hW2]; exact Blk.new _ _ _
  rw [← hW2]
  clear hW2
  refine (spec_CtorsOf xs t W2 _ F (ArrDt.below HX.out hB2 HF.out) (HF.out.mono hB2.size)).mono ?_
  rintro e w3 ⟨v3, F3, rfl, hb3, ha3, hfr3, hfs3⟩
  have hB3 := hB2.trans (hb3.mono hB2.size)
  have k3 := k1.same (hb3.block _ k1.lt)
  obtain ⟨A3, cap3, rfl, -, -⟩ := ha3.form
  have HA3 := Lib.hid ha3
  have HU3 := Lib.hid hfs3.under
  clear ha3 hfr3 hfs3
  go_wp2_with fail
  refine (spec_l1Has (ctorsOfL xs t) n w3 _ F3 HA3.out HU3.out).mono ?_
  rintro e w4 ⟨rfl, hb4⟩
  have hB4 := hB3.trans (hb4.mono hB3.size)
  have k4 := k3.same (hb4.block _ k3.lt)
  have x0 : w4.cell? ⟨w.heap.size, 0, none⟩ = some (.int .i64 t.d) := (k4.cell 0).trans (by simp)
  have x1 : w4.cell? ⟨w.heap.size, 1, none⟩ = some (.int .i64 t.i) := (k4.cell 1).trans (by simp)
  have hlt := k4.lt
  clear k1 k3 k4
  cases h1 : hasB (ctorsOfL xs t) n with
  | false =>
    have hf := Lib.hid (argTypesL_no h1)
    clear h1
    go_wp2
    go_ret
    rw [hf.out]
    exact ⟨_, [], rfl, hB4.alloc hB4.size _, ⟨_, _, rfl, by simp, by simp [maxLen], .inl ⟨rfl, rfl⟩⟩, Free.nil _, Fresh.nil _ _⟩
  | true =>
    obtain ⟨e1, hw, d, m, hd, hd1, hd2, hm⟩ := argTypesL_yes h1
    obtain ⟨t1, t2⟩ := t
    simp only at hd1
    subst hd1 hd2
    rw [argsOf_get hd hm] at e1
    have hf := Lib.hid e1
    have HL := Lib.hid (hw.ctor hd hm).args
    clear h1 e1 hw
    go_wp2_with fail
    refine (spec_l1Args xs d m t2 hd hm w4 _ F (ArrDt.below HX.out hB4 HF.out) (HF.out.mono hB4.size) HL.out).mono ?_
    rintro e w5 ⟨v5, F5, rfl, hB5, ha5, hfr5, hfs5⟩
    have hfin : GivesTys w (argTypesL xs ⟨(d : Int), t2⟩ (m : Int)) (.returned v5) w5 := by
      rw [hf.out]
      exact ⟨v5, F5, rfl, hB4.trans (hB5.mono hB4.size), ha5, hfr5, fun b hb => ⟨Nat.le_trans hB4.size (hfs5 b hb).1, (hfs5 b hb).2⟩⟩
    have HFin := Lib.hid hfin
    clear hfin hB5 ha5 hfr5 hfs5
    go_wp2
    go_ret
    exact HFin.out
set_option maxRecDepth 100000 in
set_option maxHeartbeats 1600000 in
theorem impl_ArgTypes (xs : List Dt) (t : Ty) (n : Int) (w : World) (v : Value) (F : List Nat) (hx : Arr w (DtR w) xs v F) (hf : Under w.heap.size F) :
    Calls Try.prog 32 #[v, .agg #[.int .i64 t.d, .int .i64 t.i], .int .i64 n] w (GivesTys w (argTypesL xs t n)) := by
  obtain ⟨A, cap, rfl, hc1, hc2⟩ := hx.form
  have HX := Lib.hid hx
  have HF := Lib.hid hf
  clear hx hf
  go_enter Try.func32, Try.ntmps32
  go_wp2_with fail
  obtain ⟨W2, hW2⟩ : ∃ W2, W2 = w.alloc (.cells #[.int .i64 t.d, .int .i64 t.i] 33) := ⟨_, rfl⟩
  have hB2 : Below w.heap.size w W2 := by rw [hW2]; exact (Below.refl _ _).alloc (Nat.le_refl _) _
  have k1 : Blk W2 w.heap.size 33 #[.int .i64 t.d, .int .i64 t.i] := by rw [hW2]; exact Blk.new _ _ _
  rw [← hW2]
  clear hW2
  refine (impl_CtorsOf xs t W2 _ F (ArrDt.below HX.out hB2 HF.out) (HF.out.mono hB2.size)).mono ?_
  rintro e w3 ⟨v3, F3, rfl, hb3, ha3, hfr3, hfs3⟩
  have hB3 := hB2.trans (hb3.mono hB2.size)
  have k3 := k1.same (hb3.block _ k1.lt)
  obtain ⟨A3, cap3, rfl, -, -⟩ := ha3.form
  have HA3 := Lib.hid ha3
  have HU3 := Lib.hid hfs3.under
  clear ha3 hfr3 hfs3
  go_wp2_with fail
  refine (impl_has (ctorsOfL xs t) n w3 _ F3 HA3.out HU3.out).mono ?_
  rintro e w4 ⟨rfl, hb4⟩
  have hB4 := hB3.trans (hb4.mono hB3.size)
  have k4 := k3.same (hb4.block _ k3.lt)
  have x0 : w4.cell? ⟨w.heap.size, 0, none⟩ = some (.int .i64 t.d) := (k4.cell 0).trans (by simp)
  have x1 : w4.cell? ⟨w.heap.size, 1, none⟩ = some (.int .i64 t.i) := (k4.cell 1).trans (by simp)
  have hlt := k4.lt
  clear k1 k3 k4
  cases h1 : hasB (ctorsOfL xs t) n with
  | false =>
    have hf := Lib.hid (argTypesL_no h1)
    clear h1
    go_wp2
    go_ret
    rw [hf.out]
    exact ⟨_, [], rfl, hB4, Arr.nil, Free.nil _, Fresh.nil _ _⟩
  | true =>
    obtain ⟨e1, hw, d, m, hd, hd1, hd2, hm⟩ := argTypesL_yes h1
    obtain ⟨t1, t2⟩ := t
    simp only at hd1
    subst hd1 hd2
    rw [argsOf_get hd hm] at e1
    have hf := Lib.hid e1
    have HL := Lib.hid (hw.ctor hd hm).args
    clear h1 e1 hw
    go_wp2_with fail
    refine (impl_argTypes xs d m t2 hd hm w4 _ F (ArrDt.below HX.out hB4 HF.out) (HF.out.mono hB4.size) HL.out).mono ?_
    rintro e w5 ⟨v5, F5, rfl, hB5, ha5, hfr5, hfs5⟩
    have hfin : GivesTys w (argTypesL xs ⟨(d : Int), t2⟩ (m : Int)) (.returned v5) w5 := by
      rw [hf.out]
      exact ⟨v5, F5, rfl, hB4.trans (hB5.mono hB4.size), ha5, hfr5, fun b hb => ⟨Nat.le_trans hB4.size (hfs5 b hb).1, (hfs5 b hb).2⟩⟩
    have HFin := Lib.hid hfin
    clear hfin hB5 ha5 hfr5 hfs5
    go_wp2
    go_ret
    exact HFin.out
end Go.Proofs.Ytddjhneoacnkgaa

namespace Go.Proofs.Ytddjhneoacnkgaa
open Go.RowKit

theorem CellsAt.nil (w : World) (b off : Nat) : CellsAt w b off [] := fun j u h => by simp at h
theorem CellsAt.cons {w : World} {b off : Nat} {a : Value} {cs : List Value} (h : w.cell? ⟨b, off, none⟩ = some a) (hc : CellsAt w b (off + 1) cs) : CellsAt w b off (a :: cs) := fun j u hj => by
  cases j with
  | zero => simp at hj; subst hj; exact h
  | succ j =>
    have := hc j u (by simpa using hj)
    rwa [show off + 1 + j = off + (j + 1) by omega] at this
theorem Kept.refl (F : List Nat) (w : World) : Kept F w w := fun _ _ => rfl
theorem Kept.set {F : List Nat} {w w' : World} {b j : Nat} {u : Value} (h : Kept F w w') (hb : b ∉ F) : Kept F w (w'.setCell ⟨b, j, none⟩ u) := fun c hc =>
  (Below.heap_setCell _ _ _ _ (fun e => hb (by rw [← show c = b from e]; exact hc))).trans (h c hc)
theorem Kept.step {F : List Nat} {w w' w'' : World} (h : Kept F w w') (hb : Below w'.heap.size w' w'') (hF : Under w'.heap.size F) : Kept F w w'' := fun c hc => (hb.block c (hF c hc)).trans (h c hc)

/-- w' differs from w in the blocks of F alone -/
structure Chg (F : List Nat) (w w' : World) : Prop where
  os : w'.os = w.os
  tape : w'.tape = w.tape
  output : w'.output = w.output
  size : w.heap.size ≤ w'.heap.size
  block : ∀ b, b < w.heap.size → b ∉ F → w'.heap[b]? = w.heap[b]?
theorem Chg.refl (F : List Nat) (w : World) : Chg F w w := ⟨rfl, rfl, rfl, Nat.le_refl _, fun _ _ _ => rfl⟩
theorem Chg.trans {F : List Nat} {a b c : World} (h : Chg F a b) (k : Chg F b c) : Chg F a c :=
  ⟨k.os.trans h.os, k.tape.trans h.tape, k.output.trans h.output, Nat.le_trans h.size k.size, fun i hi hF => (k.block i (Nat.lt_of_lt_of_le hi h.size) hF).trans (h.block i hi hF)⟩
theorem Chg.mono {F G : List Nat} {w w' : World} (h : Chg F w w') (hs : ∀ b ∈ F, b ∈ G) : Chg G w w' := ⟨h.os, h.tape, h.output, h.size, fun b hb hG => h.block b hb fun hf => hG (hs b hf)⟩
theorem Chg.of_below {F : List Nat} {w w' : World} (h : Below w.heap.size w w') : Chg F w w' := ⟨h.os, h.tape, h.output, h.size, fun b hb _ => h.block b hb⟩
theorem Chg.kept {F G : List Nat} {w w' : World} (h : Chg F w w') (hG : Under w.heap.size G) (hd : ∀ b ∈ G, b ∉ F) : Kept G w w' := fun b hb => h.block b (hG b hb) (hd b hb)
theorem Chg.below {F : List Nat} {w w' : World} {B : Nat} (h : Chg F w w') (hF : ∀ b ∈ F, B ≤ b) (hB : B ≤ w.heap.size) : Below B w w' :=
  ⟨h.os, h.tape, h.output, h.size, fun b hb => h.block b (Nat.lt_of_lt_of_le hb hB) fun hf => Nat.lt_irrefl _ (Nat.lt_of_lt_of_le hb (hF b hf))⟩

/-- beside the blocks of F, cells lo .. lo + n - 1 of block b may have changed -/
structure Upd (b lo n : Nat) (F : List Nat) (w w' : World) : Prop extends Chg (b :: F) w w' where
  cells : ∀ j, j < lo ∨ lo + n ≤ j → w'.cell? ⟨b, j, none⟩ = w.cell? ⟨b, j, none⟩
  froz : ∀ j, w'.frozen? ⟨b, j, none⟩ = w.frozen? ⟨b, j, none⟩
theorem Upd.refl (b lo n : Nat) (F : List Nat) (w : World) : Upd b lo n F w w := ⟨Chg.refl _ _, fun _ _ => rfl, fun _ => rfl⟩
theorem Upd.trans {b lo n : Nat} {F : List Nat} {x y z : World} (h : Upd b lo n F x y) (k : Upd b lo n F y z) : Upd b lo n F x z :=
  ⟨h.toChg.trans k.toChg, fun j hj => (k.cells j hj).trans (h.cells j hj), fun j => (k.froz j).trans (h.froz j)⟩
theorem Upd.set {b lo n : Nat} {F : List Nat} {x y : World} (h : Upd b lo n F x y) {j : Nat} (h1 : lo ≤ j) (h2 : j < lo + n) (u : Value) : Upd b lo n F x (y.setCell ⟨b, j, none⟩ u) :=
  h.trans ⟨⟨rfl, rfl, rfl, by simp [World.setCell], fun c _ hc => Below.heap_setCell _ _ _ _ (fun e => hc (by rw [e]; exact List.mem_cons_self))⟩,
    fun i hi => World.cell?_setCell_other _ _ _ _ (by intro e; injection e; omega), fun i => World.frozen?_setCell _ _ _ _⟩
theorem Upd.sub {b lo n : Nat} {F : List Nat} {x y z : World} (h : Upd b lo n F x y) (hc : Chg F y z) (hb : b ∉ F) (hlt : b < y.heap.size) : Upd b lo n F x z :=
  h.trans ⟨hc.mono fun c hc => List.mem_cons_of_mem _ hc, fun j _ => World.cell?_of_block (w := y) (a := ⟨b, j, none⟩) (hc.block b hlt hb), fun j => World.frozen?_of_block (w := y) (a := ⟨b, j, none⟩) (hc.block b hlt hb)⟩
theorem Upd.below {b lo n : Nat} {F : List Nat} {x y z : World} (h : Upd b lo n F x y) (hc : Below y.heap.size y z) (hlt : b < y.heap.size) : Upd b lo n F x z :=
  h.trans ⟨.of_below hc, fun j _ => hc.cell (p := ⟨b, j, none⟩) hlt, fun j => hc.frozen (p := ⟨b, j, none⟩) hlt⟩

theorem Flat.len_eq {α : Type} {R : α → List Value → List Nat → Prop} {k : Nat} (hk : ∀ x cs F, R x cs F → cs.length = k) {xs : List α} {c : List Value} {F : List Nat} (h : Flat R xs c F) : c.length = xs.length * k := h.length hk

section
variable {α : Type} {R : World → α → List Value → List Nat → Prop} {k : Nat}

/-- one element in view: what may be done to it -/
theorem Arr.focus (hRl : ∀ w x cs G, R w x cs G → cs.length = k) (hRm : ∀ w w' x cs G, Kept G w w' → R w x cs G → R w' x cs G) {w : World} {xs : List α} {v : Value} {F : List Nat}
    (h : Arr w (R w) xs v F) (hfr : Free w F) (hF : Under w.heap.size F) {i : Nat} (hi : i < xs.length) :
    ∃ b off c F1 F2 F3 cap, v = .slice (some ⟨b, off, none⟩) xs.length cap ∧ F = b :: (F1 ++ (F2 ++ F3)) ∧ CellsAt w b (off + i * k) c ∧ R w xs[i] c F2 ∧ Free w F2 ∧ b ∉ F2 ∧ b < w.heap.size ∧ (∀ j, w.frozen? ⟨b, j, none⟩ = false) ∧ Under w.heap.size F2 ∧
      ∀ w' y c', Upd b (off + i * k) k F2 w w' → CellsAt w' b (off + i * k) c' → R w' y c' F2 → Free w' F2 → Arr w' (R w') (xs.set i y) v F ∧ Free w' F ∧ Chg F w w' := by
  obtain ⟨A, cap, rfl, h1, h2, h3⟩ := h
  rcases h3 with ⟨rfl, -⟩ | ⟨b, off, cs, G, rfl, hc, hf, rfl⟩
  · simp at hi
  have hxs : xs = xs.take i ++ (xs[i] :: xs.drop (i + 1)) := by rw [← List.drop_eq_getElem_cons hi, List.take_append_drop]
  have hf' := hf
  rw [hxs] at hf'
  obtain ⟨c1, c23, F1, F23, rfl, rfl, g1, g23⟩ := Flat.split (xs.take i) hf'
  obtain ⟨c2, c3, F2, F3, rfl, rfl, g2, g3⟩ := g23
  have l1 : c1.length = i * k := by rw [g1.length (hRl w), List.length_take]; congr 1; omega
  have hc2 := hc.right
  rw [l1] at hc2
  have l2 := hRl _ _ _ _ g2
  have nd := List.nodup_cons.1 hfr.1
  have nd1 := List.nodup_append.1 nd.2
  have nd2 := List.nodup_append.1 nd1.2.1
  have hbF2 : b ∉ F2 := fun hb => nd.1 (List.mem_append.2 (.inr (List.mem_append.2 (.inl hb))))
  refine ⟨b, off, c2, F1, F2, F3, cap, rfl, rfl, hc2.left, g2, ⟨nd2.1, fun x hx j => hfr.2 x (by simp [hx]) j⟩, hbF2, hF b (by simp), fun j => hfr.2 b (by simp) j, fun x hx => hF x (by simp [hx]), ?_⟩
  intro w' y c' hu hc' hy hfr2
  have k1 : Kept F1 w w' := hu.toChg.kept (fun x hx => hF x (by simp [hx])) fun x hx hm => by
    rcases List.mem_cons.1 hm with rfl | hm
    · exact nd.1 (by simp [hx])
    · exact nd1.2.2 x hx x (by simp [hm]) rfl
  have k3 : Kept F3 w w' := hu.toChg.kept (fun x hx => hF x (by simp [hx])) fun x hx hm => by
    rcases List.mem_cons.1 hm with rfl | hm
    · exact nd.1 (by simp [hx])
    · exact nd2.2.2 x hm x hx rfl
  have lc' := hRl _ _ _ _ hy
  have hxs' : xs.set i y = xs.take i ++ (y :: xs.drop (i + 1)) := by rw [List.set_eq_take_append_cons_drop, if_pos hi]
  refine ⟨?_, ?_, ?_⟩
  · rw [hxs']
    refine ⟨_, cap, by rw [← hxs', List.length_set], by rw [← hxs', List.length_set]; exact h1, h2, .inr ⟨b, off, c1 ++ (c' ++ c3), F1 ++ (F2 ++ F3), rfl, ?_, ?_, rfl⟩⟩
    · refine CellsAt.append (fun j u hj => ?_) (CellsAt.append ?_ (fun j u hj => ?_))
      · have hjl := (List.getElem?_eq_some_iff.1 hj).1
        rw [hu.cells _ (.inl (by omega))]
        exact hc.left j u hj
      · rw [l1]; exact hc'
      · rw [l1, hu.cells _ (.inr (by omega))]
        have := hc2.right j u hj
        rw [l2] at this
        rwa [lc']
    · exact (g1.mono fun x _ cs H hH hr => hRm _ _ x cs H (fun z hz => k1 z (hH z hz)) hr).append ⟨c', c3, F2, F3, rfl, rfl, hy, g3.mono fun x _ cs H hH hr => hRm _ _ x cs H (fun z hz => k3 z (hH z hz)) hr⟩
  · refine ⟨hfr.1, fun x hx j => ?_⟩
    rcases List.mem_cons.1 hx with rfl | hx
    · rw [hu.froz j]; exact hfr.2 x (by simp) j
    · rcases List.mem_append.1 hx with hx | hx
      · rw [World.frozen?_of_block (w := w) (a := ⟨x, j, none⟩) (k1 x hx)]; exact hfr.2 x (by simp [hx]) j
      · rcases List.mem_append.1 hx with hx | hx
        · exact hfr2.2 x hx j
        · rw [World.frozen?_of_block (w := w) (a := ⟨x, j, none⟩) (k3 x hx)]; exact hfr.2 x (by simp [hx]) j
  · exact hu.toChg.mono fun x hx => by
      rcases List.mem_cons.1 hx with rfl | hx <;> simp [*]
end

/-! ### What marking makes of a list -/
def mkS {α : Type} (mk : Int → α → α) (cnt : α → Nat) : Int → List α → List α
  | _, [] => []
  | k, x :: xs => mk k x :: mkS mk cnt (k + cnt x) xs
section
variable {α : Type} {mk : Int → α → α} {cnt : α → Nat}
theorem mkS_length : ∀ (xs : List α) (k : Int), (mkS mk cnt k xs).length = xs.length
  | [], _ => rfl
  | x :: xs, k => by rw [mkS, List.length_cons, mkS_length xs, List.length_cons]
theorem mkS_snoc : ∀ (xs : List α) (k : Int) (x : α), mkS mk cnt k (xs ++ [x]) = mkS mk cnt k xs ++ [mk (k + sumBy cnt xs) x]
  | [], k, x => by simp [mkS, sumBy]
  | y :: xs, k, x => by
    simp only [List.cons_append, mkS, mkS_snoc xs, sumBy]
    congr 4; omega
theorem mkS_get {xs : List α} {k : Int} {i : Nat} (hi : i < xs.length) : (mkS mk cnt k xs)[i]? = some (mk (k + sumBy cnt (xs.take i)) xs[i]) := by
  have h : ∀ (xs : List α) (k : Int) (i : Nat) (hi : i < xs.length), (mkS mk cnt k xs)[i]? = some (mk (k + sumBy cnt (xs.take i)) xs[i]) := by
    intro xs
    induction xs with
    | nil => intro k i hi; simp at hi
    | cons x xs ih =>
      intro k i hi
      cases i with
      | zero => simp [mkS, sumBy]
      | succ i =>
        simp only [mkS, List.getElem?_cons_succ, List.take_succ_cons, sumBy, List.getElem_cons_succ]
        rw [ih (k + cnt x) i (by simpa using hi)]
        congr 2; omega
  exact h xs k i hi
/-- the first i elements are marked already -/
def mkTo (mk : Int → α → α) (cnt : α → Nat) (k : Int) (xs : List α) (i : Nat) : List α := mkS mk cnt k (xs.take i) ++ xs.drop i
theorem mkTo_length (k : Int) (xs : List α) (i : Nat) : (mkTo mk cnt k xs i).length = xs.length := by unfold mkTo; rw [List.length_append, mkS_length, ← List.length_append, List.take_append_drop]
theorem mkTo_zero (k : Int) (xs : List α) : mkTo mk cnt k xs 0 = xs := rfl
theorem mkTo_all (k : Int) (xs : List α) {i : Nat} (h : xs.length ≤ i) : mkTo mk cnt k xs i = mkS mk cnt k xs := by unfold mkTo; rw [List.take_of_length_le h, List.drop_of_length_le h, List.append_nil]
theorem mkTo_get {k : Int} {xs : List α} {i : Nat} (hi : i < xs.length) : (mkTo mk cnt k xs i)[i]'(by rw [mkTo_length]; exact hi) = xs[i] := by
  unfold mkTo
  rw [List.getElem_append_right (by rw [mkS_length, List.length_take]; omega)]
  simp only [mkS_length, List.length_take, Nat.min_eq_left (Nat.le_of_lt hi), Nat.sub_self, List.getElem_drop, Nat.add_zero]
theorem mkTo_step {k : Int} {xs : List α} {i : Nat} (hi : i < xs.length) : (mkTo mk cnt k xs i).set i (mk (k + sumBy cnt (xs.take i)) xs[i]) = mkTo mk cnt k xs (i + 1) := by
  unfold mkTo
  rw [take_snoc' xs i hi, mkS_snoc, List.set_append_right _ _ (by rw [mkS_length, List.length_take]; omega), mkS_length, List.length_take, Nat.min_eq_left (Nat.le_of_lt hi), Nat.sub_self, List.drop_eq_getElem_cons hi, List.set_cons_zero, List.append_assoc]
  rfl
theorem sumBy_step (f : α → Nat) {xs : List α} {i : Nat} (hi : i < xs.length) (k : Int) : k + sumBy f (xs.take (i + 1)) = k + sumBy f (xs.take i) + f xs[i] := by rw [sumBy_take_succ f xs i hi]; omega
end
end Go.Proofs.Ytddjhneoacnkgaa

namespace Go.Proofs.Ytddjhneoacnkgaa
open Go.RowKit

/-- the decimal digits of a number, none for 0 -/
def digs (n : Nat) : List UInt8 := if h : n = 0 then [] else digs (n / 10) ++ [UInt8.ofNat (48 + n % 10)]
termination_by n
decreasing_by omega
def mtext (k : Int) : ByteArray := if k ≤ 0 then ⟨#[109, 48]⟩ else ⟨(109 :: digs k.toNat).toArray⟩
theorem digs_zero : digs 0 = [] := by rw [digs]; rfl
theorem digs_pos (n : Nat) (h : 0 < n) : digs n = digs (n / 10) ++ [UInt8.ofNat (48 + n % 10)] := by rw [digs, dif_neg (by omega)]
theorem digs_len (n : Nat) : (digs n).length ≤ n := by
  induction n using Nat.strongRecOn with
  | ind n ih =>
    rcases Nat.eq_zero_or_pos n with rfl | h
    · rw [digs_zero]; exact Nat.le_refl _
    · rw [digs_pos n h, List.length_append, List.length_singleton]
      have := ih (n / 10) (by omega)
      omega
theorem mtext_le (k : Int) (h0 : 0 ≤ k) (h : k ≤ 1099511627776) : (mtext k).size ≤ 9223372036854775807 := by
  unfold mtext
  split
  · decide
  · have := digs_len k.toNat
    show (109 :: digs k.toNat).toArray.size ≤ _
    rw [List.size_toArray, List.length_cons]
    omega

theorem conv1 (w : World) (x : Int) : (convert 99 9 (.slice (some ⟨w.heap.size, 0, none⟩) 1 1)).run Try.prog (w.alloc (.cells #[.int .u8 x] 5)) = .ok (.string (strOfNums [x])) (w.alloc (.cells #[.int .u8 x] 5)) :=
  run_convert_bytes_arg _ 99 5 Try.underlying99 Try.underlying5 w.heap.size 0 1 1 [x] rfl (fun i hi => by
    obtain rfl : i = 0 := by omega
    exact ((Blk.new w 5 #[.int .u8 x]).cell 0).trans (by simp)) 9 Try.underlying9
theorem data_append (a b : ByteArray) : (a ++ b).data.toList = a.data.toList ++ b.data.toList := by rw [ByteArray.data_append, Array.toList_append]
theorem size_append (a b : ByteArray) : (a ++ b).size = a.size + b.size := by show (a ++ b).data.size = _; rw [ByteArray.data_append, Array.size_append]; rfl
theorem bytes_ext {a b : ByteArray} (h : a.data.toList = b.data.toList) : a = b := by
  cases a; cases b
  simp at h
  rw [h]
set_option maxRecDepth 100000 in
set_option maxHeartbeats 1600000 in
theorem markText_any (k : Int) (w : World) (h0 : 0 ≤ k) (hk : k ≤ 1099511627776) : Calls Try.prog 59 #[.int .i64 k] w fun e w' => e = .returned (.string (mtext k)) ∧ Below w.heap.size w w' := by
  by_cases hz : k ≤ 0
  · have hf : Hid (mtext k = ⟨#[109, 48]⟩) := by unfold Hid mtext; rw [if_pos hz]
    go_enter Try.func59, Try.ntmps59
    go_wp2
    go_ret
    exact ⟨by rw [hf.out]; rfl, Below.refl _ _⟩
  · obtain ⟨n0, rfl⟩ := Int.eq_ofNat_of_zero_le h0
    have hf : Hid (mtext (n0 : Int) = ⟨(109 :: digs n0).toArray⟩) := by unfold Hid mtext; rw [if_neg hz]; rfl
    have hkn : n0 ≤ 1099511627776 := by omega
    go_enter Try.func59, Try.ntmps59
    go_wp2
    go_loopw [0, 3] (fun kv ov wr => ∃ n : Nat, ∃ out : ByteArray, kv = .int .i64 n ∧ ov = .string out ∧ n ≤ 1099511627776 ∧ Hid (digs n0 = digs n ++ out.data.toList) ∧ out.size + n ≤ n0 ∧ Below w.heap.size w wr) (fun kv _ _ => (intOf kv).toNat)
    case atStart => exact ⟨n0, ⟨#[]⟩, rfl, rfl, hkn, (show digs n0 = digs n0 ++ [] from (List.append_nil _).symm), (by show 0 + n0 ≤ n0; omega), Below.refl _ _⟩
    case round =>
      obtain ⟨n, out, rfl, rfl, hn, HD, hsz, hB⟩ := hrel
      by_cases hlt : 0 < n
      · have g1 : (0 : Int) ≤ (n : Int) := by omega
        have g2 : (0 : Int) < (n : Int) := by omega
        have hcv := conv1 wr (48 + (n : Int) % 10)
        have hdg := digs_pos n hlt
        have HD2 : Hid (digs n0 = digs (n / 10) ++ (strOfNums [48 + (n : Int) % 10] ++ out).data.toList) := by
          unfold Hid
          rw [HD.out, hdg, data_append, strOfNums_data, List.append_assoc]
          congr 3
          all_goals (simp only [List.map_cons, List.map_nil]; try (congr 2; omega))
        have hs2 : (strOfNums [48 + (n : Int) % 10] ++ out).size + n / 10 ≤ n0 := by rw [size_append, strOfNums_size]; simp only [List.length_singleton]; omega
        have HS2 := Lib.hid hs2
        have hcat : (strOfNums [48 + (n : Int) % 10]).size + out.size ≤ 9223372036854775807 := by rw [strOfNums_size]; simp only [List.length_singleton]; omega
        clear hs2 hdg
        go_wp2
        go_roundw
        case rel => exact ⟨n / 10, _, (by go_num), rfl, by omega, HD2, HS2.out, hB.alloc hB.size _⟩
        case measure => (simp [intOf] <;> omega)
      · obtain rfl : n = 0 := by omega
        have hfin : mtext (n0 : Int) = ⟨#[109]⟩ ++ out := by
          rw [hf.out]
          refine bytes_ext ?_
          rw [data_append]
          have h := HD.out
          rw [digs_zero, List.nil_append] at h
          rw [← h]
          simp
        have HFin := Lib.hid hfin
        clear hfin
        go_wp2
        go_ret
        exact ⟨by rw [HFin.out]; rfl, hB⟩
end Go.Proofs.Ytddjhneoacnkgaa

namespace Go.Proofs.Ytddjhneoacnkgaa
open Go.RowKit

def cntTy (x : Ty) : Nat := 2
def mkTy (k : Int) (x : Ty) : Ty := ⟨k, k + 1⟩
theorem cntTy_def (x : Ty) : cntTy x = 2 := rfl

theorem cntsTy_len (xs : List Ty) : sumBy cntTy xs = 2 * xs.length := by
  induction xs with
  | nil => rfl
  | cons x xs ih => simp only [sumBy, ih, List.length_cons, cntTy]; omega

set_option maxRecDepth 100000 in
set_option maxHeartbeats 1600000 in
theorem markTypeS_any (xs : List Ty) (w : World) (v : Value) (F : List Nat) (k0 : Int) (h0 : 0 ≤ k0) (hk : k0 + (sumBy cntTy xs : Nat) ≤ 1099511627776) (hx : Arr w (TyR w) xs v F) (hfr : Free w F) (hf : Under w.heap.size F) :
    Calls Try.prog 34 #[v, .int .i64 k0] w fun e w' => e = .returned (.int .i64 (k0 + (sumBy cntTy xs : Nat))) ∧ Chg F w w' ∧ Arr w' (TyR w') (mkS mkTy cntTy k0 xs) v F ∧ Free w' F := by
  have HX := Lib.hid (And.intro hx (And.intro hfr (Chg.refl F w)))
  obtain ⟨A, cap, rfl, hc1, hc2⟩ := hx.form
  have HF := Lib.hid hf
  have HK := Lib.hid hk

  clear hx hfr hf hk
  go_enter Try.func34, Try.ntmps34
  go_wp2
  go_loopw [1, 5] (fun kv iv wr => ∃ i : Nat, ∃ m : Int, i ≤ xs.length ∧ iv = .int .i64 i ∧ kv = .int .i64 m ∧ 0 ≤ m ∧ Hid (m = k0 + (sumBy cntTy (xs.take i) : Nat)) ∧ Hid (Arr wr (TyR wr) (mkTo mkTy cntTy k0 xs i) (.slice A xs.length cap) F ∧ Free wr F ∧ Chg F w wr)) (fun _ iv _ => xs.length - (intOf iv).toNat)
  case atStart => exact ⟨0, k0, Nat.zero_le _, rfl, rfl, h0, (by simp [Hid, sumBy]), HX⟩
  case round =>
    obtain ⟨i, m, hi, rfl, rfl, hm0, HM, HR⟩ := hrel
    by_cases hlt : i < xs.length
    · have g1 : (0 : Int) ≤ (i : Int) := by omega
      have g2 : (i : Int) < (xs.length : Int) := by omega
      obtain ⟨b, off, c, F1, F2, F3, cap', hv, hFe, hc, hr, hfr2, hnb, hbl, hfz, hu2, hclose⟩ := HR.out.1.focus (fun w => TyR_len (w := w)) (fun w w' x cs G hk h => TyR.mono (w := w) (w' := w') x cs G hk h) HR.out.2.1 (HF.out.mono HR.out.2.2.size) (i := i) (by rw [mkTo_length]; exact hlt)
      obtain rfl : A = some ⟨b, off, none⟩ := by injection hv
      rw [mkTo_get hlt] at hr

      have hsum : m + (cntTy xs[i] : Nat) ≤ 1099511627776 := by
        have h1 := HM.out
        have h2 := HK.out
        have h3 := sumBy_take_le cntTy xs (i + 1)
        rw [sumBy_take_succ cntTy xs i hlt] at h3
        omega
      have HCl := Lib.hid hclose
      have HHv := Lib.hid hv
      have HFe := Lib.hid hFe
      clear hclose hv hFe
      obtain ⟨rfl, rfl⟩ := hr
      have hcd := cntTy_def xs[i]
      rw [hcd] at hsum
      have x0 : wr.cell? ⟨b, off + i * 2, none⟩ = some (.int .i64 xs[i].d) := hc 0 _ rfl
      have x1 : wr.cell? ⟨b, off + i * 2 + 1, none⟩ = some (.int .i64 xs[i].i) := hc 1 _ rfl
      clear hc
      have HFr2 := Lib.hid hfr2
      have HU2 := Lib.hid hu2
      have HNB := Lib.hid hnb
      have HCD := Lib.hid hcd
      clear hfr2 hu2 hnb hcd
      have HFz := Lib.hid hfz
      clear hfz
      have U0 := Lib.hid (Upd.refl b (off + i * 2) 2 [] wr)
      have K0 := Lib.hid (Kept.refl [] wr)
      have z0 : wr.frozen? ⟨b, off + i * 2, none⟩ = false := (U0.out.froz _).trans (HFz.out _)
      have z1 : wr.frozen? ⟨b, off + i * 2 + 1, none⟩ = false := (U0.out.froz _).trans (HFz.out _)
      have X0 := Lib.hid x0
      have X1 := Lib.hid x1
      have U1 := Lib.hid (U0.out.set (j := off + i * 2) (by omega) (by omega) (.int .i64 (m)))
      have Y0 := Lib.hid (show (wr.setCell ⟨b, off + i * 2, none⟩ (.int .i64 (m))).cell? ⟨b, off + i * 2, none⟩ = some (.int .i64 (m)) from World.cell?_setCell_same _ _ _ X0.out)
      have Y1 := Lib.hid ((World.cell?_setCell_other _ ⟨b, off + i * 2, none⟩ ⟨b, off + i * 2 + 1, none⟩ (.int .i64 (m)) (by intro e; injection e; omega)).trans X1.out)
      clear X0 X1
      have X0 := Y0
      have X1 := Y1
      clear Y0 Y1
      have U2 := Lib.hid (U1.out.set (j := off + i * 2 + 1) (by omega) (by omega) (.int .i64 (m + 1)))
      have Y0 := Lib.hid ((World.cell?_setCell_other _ ⟨b, off + i * 2 + 1, none⟩ ⟨b, off + i * 2, none⟩ (.int .i64 (m + 1)) (by intro e; injection e; omega)).trans X0.out)
      have Y1 := Lib.hid (show ((wr.setCell ⟨b, off + i * 2, none⟩ (.int .i64 (m))).setCell ⟨b, off + i * 2 + 1, none⟩ (.int .i64 (m + 1))).cell? ⟨b, off + i * 2 + 1, none⟩ = some (.int .i64 (m + 1)) from World.cell?_setCell_same _ _ _ X1.out)
      clear X0 X1
      have X0 := Y0
      have X1 := Y1
      clear Y0 Y1
      have hfin := HCl.out ((wr.setCell ⟨b, off + i * 2, none⟩ (.int .i64 (m))).setCell ⟨b, off + i * 2 + 1, none⟩ (.int .i64 (m + 1))) (mkTy m xs[i]) _ U2.out (CellsAt.cons X0.out (CellsAt.cons X1.out (CellsAt.nil _ _ _))) (⟨rfl, rfl⟩) (Free.nil _)
      have hst : (mkTo mkTy cntTy k0 xs i).set i (mkTy m xs[i]) = mkTo mkTy cntTy k0 xs (i + 1) := by rw [HM.out]; exact mkTo_step hlt
      rw [hst] at hfin
      clear hst
      have HFin := Lib.hid (And.intro hfin.1 (And.intro hfin.2.1 (HR.out.2.2.trans hfin.2.2)))
      clear hfin
      have HM2 : Hid (m + 1 + 1 = k0 + (sumBy cntTy (xs.take (i + 1)) : Nat)) := by
        have h1 := HM.out
        have h2 := HCD.out
        unfold Hid
        rw [sumBy_take_succ cntTy xs i hlt]
        omega
      go_wp2
      go_roundw
      case rel => exact ⟨i + 1, m + 1 + 1, by omega, by go_num, rfl, by omega, HM2, HFin.out⟩
      case measure => (simp [intOf] <;> omega)
    · have HEnd : Hid (Chg F w wr ∧ Arr wr (TyR wr) (mkS mkTy cntTy k0 xs) (.slice A xs.length cap) F ∧ Free wr F) := by
        have h := HR.out
        rw [mkTo_all k0 xs (by omega)] at h
        exact ⟨h.2.2, h.1, h.2.1⟩
      have hf : Hid (m = k0 + (sumBy cntTy xs : Nat)) := by
        have h := HM.out
        rwa [List.take_of_length_le (by omega)] at h
      go_wp2
      go_ret
      exact ⟨ret_int hf.out, HEnd.out⟩
end Go.Proofs.Ytddjhneoacnkgaa

namespace Go.Proofs.Ytddjhneoacnkgaa
open Go.RowKit

def cntKt (x : Kt) : Nat := 2 + sumBy cntTy x.args
def mkKt (k : Int) (x : Kt) : Kt := ⟨mtext (k), mkS mkTy cntTy (k + 1) x.args, k + 1 + (sumBy cntTy x.args : Nat)⟩
theorem cntKt_def (x : Kt) : cntKt x = 2 + sumBy cntTy x.args := rfl

set_option maxRecDepth 100000 in
set_option maxHeartbeats 1600000 in
theorem markCtorS_any (xs : List Kt) (w : World) (v : Value) (F : List Nat) (k0 : Int) (h0 : 0 ≤ k0) (hk : k0 + (sumBy cntKt xs : Nat) ≤ 1099511627776) (hx : Arr w (KtR w) xs v F) (hfr : Free w F) (hf : Under w.heap.size F) :
    Calls Try.prog 60 #[v, .int .i64 k0] w fun e w' => e = .returned (.int .i64 (k0 + (sumBy cntKt xs : Nat))) ∧ Chg F w w' ∧ Arr w' (KtR w') (mkS mkKt cntKt k0 xs) v F ∧ Free w' F := by
  have HX := Lib.hid (And.intro hx (And.intro hfr (Chg.refl F w)))
  obtain ⟨A, cap, rfl, hc1, hc2⟩ := hx.form
  have HF := Lib.hid hf
  have HK := Lib.hid hk

  clear hx hfr hf hk
  go_enter Try.func60, Try.ntmps60
  go_wp2
  go_loopw [1, 5] (fun kv iv wr => ∃ i : Nat, ∃ m : Int, i ≤ xs.length ∧ iv = .int .i64 i ∧ kv = .int .i64 m ∧ 0 ≤ m ∧ Hid (m = k0 + (sumBy cntKt (xs.take i) : Nat)) ∧ Hid (Arr wr (KtR wr) (mkTo mkKt cntKt k0 xs i) (.slice A xs.length cap) F ∧ Free wr F ∧ Chg F w wr)) (fun _ iv _ => xs.length - (intOf iv).toNat)
  case atStart => exact ⟨0, k0, Nat.zero_le _, rfl, rfl, h0, (by simp [Hid, sumBy]), HX⟩
  case round =>
    obtain ⟨i, m, hi, rfl, rfl, hm0, HM, HR⟩ := hrel
    by_cases hlt : i < xs.length
    · have g1 : (0 : Int) ≤ (i : Int) := by omega
      have g2 : (i : Int) < (xs.length : Int) := by omega
      obtain ⟨b, off, c, F1, F2, F3, cap', hv, hFe, hc, hr, hfr2, hnb, hbl, hfz, hu2, hclose⟩ := HR.out.1.focus (fun w => KtR_len (w := w)) (fun w w' x cs G hk h => KtR.mono (w := w) (w' := w') x cs G hk h) HR.out.2.1 (HF.out.mono HR.out.2.2.size) (i := i) (by rw [mkTo_length]; exact hlt)
      obtain rfl : A = some ⟨b, off, none⟩ := by injection hv
      rw [mkTo_get hlt] at hr

      have hsum : m + (cntKt xs[i] : Nat) ≤ 1099511627776 := by
        have h1 := HM.out
        have h2 := HK.out
        have h3 := sumBy_take_le cntKt xs (i + 1)
        rw [sumBy_take_succ cntKt xs i hlt] at h3
        omega
      have HCl := Lib.hid hclose
      have HHv := Lib.hid hv
      have HFe := Lib.hid hFe
      clear hclose hv hFe
      obtain ⟨kv, rfl, ha, hs0⟩ := hr
      obtain ⟨A1, cap1, rfl, -, -⟩ := ha.form
      have hcd := cntKt_def xs[i]
      rw [hcd] at hsum
      have x0 : wr.cell? ⟨b, off + i * 3, none⟩ = some (.string xs[i].name) := hc 0 _ rfl
      have x1 : wr.cell? ⟨b, off + i * 3 + 1, none⟩ = some (.slice A1 xs[i].args.length cap1) := hc 1 _ rfl
      have x2 : wr.cell? ⟨b, off + i * 3 + 2, none⟩ = some (.int .i64 xs[i].idx) := hc 2 _ rfl
      clear hc
      have HA := Lib.hid ha
      have HFr2 := Lib.hid hfr2
      have HU2 := Lib.hid hu2
      have HNB := Lib.hid hnb
      clear ha hfr2 hu2 hnb
      have hsn : (0 : Int) ≤ (sumBy cntTy xs[i].args : Nat) := by omega
      generalize hsg : sumBy cntTy xs[i].args = s at *
      have HSG := Lib.hid hsg
      have HCD := Lib.hid hcd
      clear hsg hcd
      have HFz := Lib.hid hfz
      clear hfz
      have U0 := Lib.hid (Upd.refl b (off + i * 3) 3 F2 wr)
      have K0 := Lib.hid (Kept.refl F2 wr)
      have z0 : wr.frozen? ⟨b, off + i * 3, none⟩ = false := (U0.out.froz _).trans (HFz.out _)
      have z2 : wr.frozen? ⟨b, off + i * 3 + 2, none⟩ = false := (U0.out.froz _).trans (HFz.out _)
      go_wp2_with fail
      refine (markText_any (m) _ (by omega) (by omega)).mono ?_
      rintro e v1 ⟨rfl, hb1⟩
      have hlE1 : b < wr.heap.size := Nat.lt_of_lt_of_le hbl U0.out.size
      have U1 := Lib.hid (U0.out.below hb1 hlE1)
      have K1 := Lib.hid (K0.out.step hb1 (HU2.out.mono U0.out.size))
      have y0 := (hb1.cell (p := ⟨b, off + i * 3, none⟩) hlE1).trans x0
      have y1 := (hb1.cell (p := ⟨b, off + i * 3 + 1, none⟩) hlE1).trans x1
      have y2 := (hb1.cell (p := ⟨b, off + i * 3 + 2, none⟩) hlE1).trans x2
      clear x0 x1 x2 z0 z2
      have x0 := y0
      have x1 := y1
      have x2 := y2
      clear y0 y1 y2
      have hb11 : b < v1.heap.size := Nat.lt_of_lt_of_le hbl U1.out.size
      have z0 : v1.frozen? ⟨b, off + i * 3, none⟩ = false := (U1.out.froz _).trans (HFz.out _)
      have z2 : v1.frozen? ⟨b, off + i * 3 + 2, none⟩ = false := (U1.out.froz _).trans (HFz.out _)
      clear hb1 hlE1
      go_wp2_with fail
      have U2 := Lib.hid (U1.out.set (j := off + i * 3) (by omega) (by omega) (.string (mtext (m))))
      have K2 := Lib.hid (K1.out.set (b := b) (j := off + i * 3) (u := .string (mtext (m))) HNB.out)
      have y0 : (v1.setCell ⟨b, off + i * 3, none⟩ (.string (mtext (m)))).cell? ⟨b, off + i * 3, none⟩ = some (.string (mtext (m))) := World.cell?_setCell_same _ _ _ x0
      have y1 := (World.cell?_setCell_other _ ⟨b, off + i * 3, none⟩ ⟨b, off + i * 3 + 1, none⟩ (.string (mtext (m))) (by intro e; injection e; omega)).trans x1
      have y2 := (World.cell?_setCell_other _ ⟨b, off + i * 3, none⟩ ⟨b, off + i * 3 + 2, none⟩ (.string (mtext (m))) (by intro e; injection e; omega)).trans x2
      clear x0 x1 x2
      have x0 := y0
      have x1 := y1
      have x2 := y2
      clear y0 y1 y2
      refine (markTypeS_any xs[i].args _ _ F2 (m + 1) (by omega) (by rw [HSG.out]; omega) (HA.out.mono K2.out (fun x _ cs G hk h => (fun w w' x cs G hk h => TyR.mono (w := w) (w' := w') x cs G hk h) _ _ x cs G hk h)) (HFr2.out.kept K2.out) (HU2.out.mono U2.out.size)).mono ?_
      rintro e v2 ⟨rfl, hg2, hm2, hfr2⟩
      have hlE2 : b < (v1.setCell ⟨b, off + i * 3, none⟩ (.string (mtext (m)))).heap.size := Nat.lt_of_lt_of_le hbl U2.out.size
      have U3 := Lib.hid (U2.out.sub hg2 HNB.out hlE2)
      have y0 := (World.cell?_of_block (w := (v1.setCell ⟨b, off + i * 3, none⟩ (.string (mtext (m))))) (a := ⟨b, off + i * 3, none⟩) (hg2.block b hlE2 HNB.out)).trans x0
      have y1 := (World.cell?_of_block (w := (v1.setCell ⟨b, off + i * 3, none⟩ (.string (mtext (m))))) (a := ⟨b, off + i * 3 + 1, none⟩) (hg2.block b hlE2 HNB.out)).trans x1
      have y2 := (World.cell?_of_block (w := (v1.setCell ⟨b, off + i * 3, none⟩ (.string (mtext (m))))) (a := ⟨b, off + i * 3 + 2, none⟩) (hg2.block b hlE2 HNB.out)).trans x2
      clear x0 x1 x2 z0 z2
      have x0 := y0
      have x1 := y1
      have x2 := y2
      clear y0 y1 y2
      have hb12 : b < v2.heap.size := Nat.lt_of_lt_of_le hbl U3.out.size
      have z0 : v2.frozen? ⟨b, off + i * 3, none⟩ = false := (U3.out.froz _).trans (HFz.out _)
      have z2 : v2.frozen? ⟨b, off + i * 3 + 2, none⟩ = false := (U3.out.froz _).trans (HFz.out _)
      have HMk := Lib.hid hm2
      have HFrk := Lib.hid hfr2
      have hgs2 := hg2.size
      clear hm2 hfr2 hg2 hlE2
      have K3 := Lib.hid (Kept.refl F2 v2)
      rw [HSG.out]
      have X0 := Lib.hid x0
      have X1 := Lib.hid x1
      have X2 := Lib.hid x2
      have U4 := Lib.hid (U3.out.set (j := off + i * 3 + 2) (by omega) (by omega) (.int .i64 (m + 1 + (s : Int))))
      have K4 := Lib.hid (K3.out.set (b := b) (j := off + i * 3 + 2) (u := .int .i64 (m + 1 + (s : Int))) HNB.out)
      have Y0 := Lib.hid ((World.cell?_setCell_other _ ⟨b, off + i * 3 + 2, none⟩ ⟨b, off + i * 3, none⟩ (.int .i64 (m + 1 + (s : Int))) (by intro e; injection e; omega)).trans X0.out)
      have Y1 := Lib.hid ((World.cell?_setCell_other _ ⟨b, off + i * 3 + 2, none⟩ ⟨b, off + i * 3 + 1, none⟩ (.int .i64 (m + 1 + (s : Int))) (by intro e; injection e; omega)).trans X1.out)
      have Y2 := Lib.hid (show (v2.setCell ⟨b, off + i * 3 + 2, none⟩ (.int .i64 (m + 1 + (s : Int)))).cell? ⟨b, off + i * 3 + 2, none⟩ = some (.int .i64 (m + 1 + (s : Int))) from World.cell?_setCell_same _ _ _ X2.out)
      clear X0 X1 X2
      have X0 := Y0
      have X1 := Y1
      have X2 := Y2
      clear Y0 Y1 Y2
      have hfin := HCl.out (v2.setCell ⟨b, off + i * 3 + 2, none⟩ (.int .i64 (m + 1 + (s : Int)))) (mkKt m xs[i]) _ U4.out (CellsAt.cons X0.out (CellsAt.cons X1.out (CellsAt.cons X2.out (CellsAt.nil _ _ _)))) (by obtain rfl := HSG.out; exact ⟨_, rfl, (HMk.out.mono K4.out (fun x _ cs G hk h => (fun w w' x cs G hk h => TyR.mono (w := w) (w' := w') x cs G hk h) _ _ x cs G hk h)), mtext_le _ (by omega) (by omega)⟩) (HFrk.out.kept K4.out)
      have hst : (mkTo mkKt cntKt k0 xs i).set i (mkKt m xs[i]) = mkTo mkKt cntKt k0 xs (i + 1) := by rw [HM.out]; exact mkTo_step hlt
      rw [hst] at hfin
      clear hst
      have HFin := Lib.hid (And.intro hfin.1 (And.intro hfin.2.1 (HR.out.2.2.trans hfin.2.2)))
      clear hfin
      have HM2 : Hid (m + 1 + (s : Int) + 1 = k0 + (sumBy cntKt (xs.take (i + 1)) : Nat)) := by
        have h1 := HM.out
        have h2 := HCD.out
        unfold Hid
        rw [sumBy_take_succ cntKt xs i hlt]
        omega
      go_wp2
      go_roundw
      case rel => exact ⟨i + 1, m + 1 + (s : Int) + 1, by omega, by go_num, rfl, by omega, HM2, HFin.out⟩
      case measure => (simp [intOf] <;> omega)
    · have HEnd : Hid (Chg F w wr ∧ Arr wr (KtR wr) (mkS mkKt cntKt k0 xs) (.slice A xs.length cap) F ∧ Free wr F) := by
        have h := HR.out
        rw [mkTo_all k0 xs (by omega)] at h
        exact ⟨h.2.2, h.1, h.2.1⟩
      have hf : Hid (m = k0 + (sumBy cntKt xs : Nat)) := by
        have h := HM.out
        rwa [List.take_of_length_le (by omega)] at h
      go_wp2
      go_ret
      exact ⟨ret_int hf.out, HEnd.out⟩
end Go.Proofs.Ytddjhneoacnkgaa

namespace Go.Proofs.Ytddjhneoacnkgaa
open Go.RowKit

def cntDt (x : Dt) : Nat := 1 + sumBy cntKt x.ctors
def mkDt (k : Int) (x : Dt) : Dt := ⟨mtext (k), mkS mkKt cntKt (k + 1) x.ctors⟩
theorem cntDt_def (x : Dt) : cntDt x = 1 + sumBy cntKt x.ctors := rfl

theorem cntsTy_le (xs : List Ty) : sumBy cntTy xs ≤ 16 * Ty.sizes xs := by
  rw [cntsTy_len]; unfold Ty.sizes; omega
theorem cntsKt_le (xs : List Kt) : sumBy cntKt xs ≤ 16 * Kt.sizes xs := by
  induction xs with
  | nil => exact Nat.zero_le _
  | cons x xs ih =>
    have h := cntsTy_le x.args
    have h1 : cntKt x = 2 + sumBy cntTy x.args := rfl
    have h2 : Kt.size x = x.name.size + Ty.sizes x.args := rfl
    simp only [Kt.sizes, sumBy, List.length_cons] at ih ⊢
    omega
theorem cntsDt_le (xs : List Dt) : sumBy cntDt xs ≤ 16 * Dt.sizes xs := by
  induction xs with
  | nil => exact Nat.zero_le _
  | cons x xs ih =>
    have h := cntsKt_le x.ctors
    have h1 : cntDt x = 1 + sumBy cntKt x.ctors := rfl
    have h2 : Dt.size x = x.name.size + Kt.sizes x.ctors := rfl
    simp only [Dt.sizes, sumBy, List.length_cons] at ih ⊢
    omega

set_option maxRecDepth 100000 in
set_option maxHeartbeats 1600000 in
theorem markDataS_any (xs : List Dt) (w : World) (v : Value) (F : List Nat) (k0 : Int) (h0 : 0 ≤ k0) (hk : k0 + (sumBy cntDt xs : Nat) ≤ 1099511627776) (hx : Arr w (DtR w) xs v F) (hfr : Free w F) (hf : Under w.heap.size F) :
    Calls Try.prog 24 #[v, .int .i64 k0] w fun e w' => e = .returned (.int .i64 (k0 + (sumBy cntDt xs : Nat))) ∧ Chg F w w' ∧ Arr w' (DtR w') (mkS mkDt cntDt k0 xs) v F ∧ Free w' F := by
  have HX := Lib.hid (And.intro hx (And.intro hfr (Chg.refl F w)))
  obtain ⟨A, cap, rfl, hc1, hc2⟩ := hx.form
  have HF := Lib.hid hf
  have HK := Lib.hid hk

  clear hx hfr hf hk
  go_enter Try.func24, Try.ntmps24
  go_wp2
  go_loopw [1, 5] (fun kv iv wr => ∃ i : Nat, ∃ m : Int, i ≤ xs.length ∧ iv = .int .i64 i ∧ kv = .int .i64 m ∧ 0 ≤ m ∧ Hid (m = k0 + (sumBy cntDt (xs.take i) : Nat)) ∧ Hid (Arr wr (DtR wr) (mkTo mkDt cntDt k0 xs i) (.slice A xs.length cap) F ∧ Free wr F ∧ Chg F w wr)) (fun _ iv _ => xs.length - (intOf iv).toNat)
  case atStart => exact ⟨0, k0, Nat.zero_le _, rfl, rfl, h0, (by simp [Hid, sumBy]), HX⟩
  case round =>
    obtain ⟨i, m, hi, rfl, rfl, hm0, HM, HR⟩ := hrel
    by_cases hlt : i < xs.length
    · have g1 : (0 : Int) ≤ (i : Int) := by omega
      have g2 : (i : Int) < (xs.length : Int) := by omega
      obtain ⟨b, off, c, F1, F2, F3, cap', hv, hFe, hc, hr, hfr2, hnb, hbl, hfz, hu2, hclose⟩ := HR.out.1.focus (fun w => DtR_len (w := w)) (fun w w' x cs G hk h => DtR.mono (w := w) (w' := w') x cs G hk h) HR.out.2.1 (HF.out.mono HR.out.2.2.size) (i := i) (by rw [mkTo_length]; exact hlt)
      obtain rfl : A = some ⟨b, off, none⟩ := by injection hv
      rw [mkTo_get hlt] at hr

      have hsum : m + (cntDt xs[i] : Nat) ≤ 1099511627776 := by
        have h1 := HM.out
        have h2 := HK.out
        have h3 := sumBy_take_le cntDt xs (i + 1)
        rw [sumBy_take_succ cntDt xs i hlt] at h3
        omega
      have HCl := Lib.hid hclose
      have HHv := Lib.hid hv
      have HFe := Lib.hid hFe
      clear hclose hv hFe
      obtain ⟨kv, rfl, ha, hs0⟩ := hr
      obtain ⟨A1, cap1, rfl, -, -⟩ := ha.form
      have hcd := cntDt_def xs[i]
      rw [hcd] at hsum
      have x0 : wr.cell? ⟨b, off + i * 2, none⟩ = some (.string xs[i].name) := hc 0 _ rfl
      have x1 : wr.cell? ⟨b, off + i * 2 + 1, none⟩ = some (.slice A1 xs[i].ctors.length cap1) := hc 1 _ rfl
      clear hc
      have HA := Lib.hid ha
      have HFr2 := Lib.hid hfr2
      have HU2 := Lib.hid hu2
      have HNB := Lib.hid hnb
      clear ha hfr2 hu2 hnb
      have hsn : (0 : Int) ≤ (sumBy cntKt xs[i].ctors : Nat) := by omega
      generalize hsg : sumBy cntKt xs[i].ctors = s at *
      have HSG := Lib.hid hsg
      have HCD := Lib.hid hcd
      clear hsg hcd
      have HFz := Lib.hid hfz
      clear hfz
      have U0 := Lib.hid (Upd.refl b (off + i * 2) 2 F2 wr)
      have K0 := Lib.hid (Kept.refl F2 wr)
      have z0 : wr.frozen? ⟨b, off + i * 2, none⟩ = false := (U0.out.froz _).trans (HFz.out _)
      go_wp2_with fail
      refine (markText_any (m) _ (by omega) (by omega)).mono ?_
      rintro e v1 ⟨rfl, hb1⟩
      have hlE1 : b < wr.heap.size := Nat.lt_of_lt_of_le hbl U0.out.size
      have U1 := Lib.hid (U0.out.below hb1 hlE1)
      have K1 := Lib.hid (K0.out.step hb1 (HU2.out.mono U0.out.size))
      have y0 := (hb1.cell (p := ⟨b, off + i * 2, none⟩) hlE1).trans x0
      have y1 := (hb1.cell (p := ⟨b, off + i * 2 + 1, none⟩) hlE1).trans x1
      clear x0 x1 z0
      have x0 := y0
      have x1 := y1
      clear y0 y1
      have hb11 : b < v1.heap.size := Nat.lt_of_lt_of_le hbl U1.out.size
      have z0 : v1.frozen? ⟨b, off + i * 2, none⟩ = false := (U1.out.froz _).trans (HFz.out _)
      clear hb1 hlE1
      go_wp2_with fail
      have U2 := Lib.hid (U1.out.set (j := off + i * 2) (by omega) (by omega) (.string (mtext (m))))
      have K2 := Lib.hid (K1.out.set (b := b) (j := off + i * 2) (u := .string (mtext (m))) HNB.out)
      have y0 : (v1.setCell ⟨b, off + i * 2, none⟩ (.string (mtext (m)))).cell? ⟨b, off + i * 2, none⟩ = some (.string (mtext (m))) := World.cell?_setCell_same _ _ _ x0
      have y1 := (World.cell?_setCell_other _ ⟨b, off + i * 2, none⟩ ⟨b, off + i * 2 + 1, none⟩ (.string (mtext (m))) (by intro e; injection e; omega)).trans x1
      clear x0 x1
      have x0 := y0
      have x1 := y1
      clear y0 y1
      refine (markCtorS_any xs[i].ctors _ _ F2 (m + 1) (by omega) (by rw [HSG.out]; omega) (HA.out.mono K2.out (fun x _ cs G hk h => (fun w w' x cs G hk h => KtR.mono (w := w) (w' := w') x cs G hk h) _ _ x cs G hk h)) (HFr2.out.kept K2.out) (HU2.out.mono U2.out.size)).mono ?_
      rintro e v2 ⟨rfl, hg2, hm2, hfr2⟩
      have hlE2 : b < (v1.setCell ⟨b, off + i * 2, none⟩ (.string (mtext (m)))).heap.size := Nat.lt_of_lt_of_le hbl U2.out.size
      have U3 := Lib.hid (U2.out.sub hg2 HNB.out hlE2)
      have y0 := (World.cell?_of_block (w := (v1.setCell ⟨b, off + i * 2, none⟩ (.string (mtext (m))))) (a := ⟨b, off + i * 2, none⟩) (hg2.block b hlE2 HNB.out)).trans x0
      have y1 := (World.cell?_of_block (w := (v1.setCell ⟨b, off + i * 2, none⟩ (.string (mtext (m))))) (a := ⟨b, off + i * 2 + 1, none⟩) (hg2.block b hlE2 HNB.out)).trans x1
      clear x0 x1 z0
      have x0 := y0
      have x1 := y1
      clear y0 y1
      have hb12 : b < v2.heap.size := Nat.lt_of_lt_of_le hbl U3.out.size
      have z0 : v2.frozen? ⟨b, off + i * 2, none⟩ = false := (U3.out.froz _).trans (HFz.out _)
      have HMk := Lib.hid hm2
      have HFrk := Lib.hid hfr2
      have hgs2 := hg2.size
      clear hm2 hfr2 hg2 hlE2
      have K3 := Lib.hid (Kept.refl F2 v2)
      rw [HSG.out]
      have X0 := Lib.hid x0
      have X1 := Lib.hid x1
      have hfin := HCl.out v2 (mkDt m xs[i]) _ U3.out (CellsAt.cons X0.out (CellsAt.cons X1.out (CellsAt.nil _ _ _))) (by obtain rfl := HSG.out; exact ⟨_, rfl, (HMk.out.mono K3.out (fun x _ cs G hk h => (fun w w' x cs G hk h => KtR.mono (w := w) (w' := w') x cs G hk h) _ _ x cs G hk h)), mtext_le _ (by omega) (by omega)⟩) (HFrk.out.kept K3.out)
      have hst : (mkTo mkDt cntDt k0 xs i).set i (mkDt m xs[i]) = mkTo mkDt cntDt k0 xs (i + 1) := by rw [HM.out]; exact mkTo_step hlt
      rw [hst] at hfin
      clear hst
      have HFin := Lib.hid (And.intro hfin.1 (And.intro hfin.2.1 (HR.out.2.2.trans hfin.2.2)))
      clear hfin
      have HM2 : Hid (m + 1 + (s : Int) = k0 + (sumBy cntDt (xs.take (i + 1)) : Nat)) := by
        have h1 := HM.out
        have h2 := HCD.out
        unfold Hid
        rw [sumBy_take_succ cntDt xs i hlt]
        omega
      go_wp2
      go_roundw
      case rel => exact ⟨i + 1, m + 1 + (s : Int), by omega, by go_num, rfl, by omega, HM2, HFin.out⟩
      case measure => (simp [intOf] <;> omega)
    · have HEnd : Hid (Chg F w wr ∧ Arr wr (DtR wr) (mkS mkDt cntDt k0 xs) (.slice A xs.length cap) F ∧ Free wr F) := by
        have h := HR.out
        rw [mkTo_all k0 xs (by omega)] at h
        exact ⟨h.2.2, h.1, h.2.1⟩
      have hf : Hid (m = k0 + (sumBy cntDt xs : Nat)) := by
        have h := HM.out
        rwa [List.take_of_length_le (by omega)] at h
      go_wp2
      go_ret
      exact ⟨ret_int hf.out, HEnd.out⟩
end Go.Proofs.Ytddjhneoacnkgaa

namespace Go.Proofs.Ytddjhneoacnkgaa
open Go.RowKit

set_option maxRecDepth 100000 in
set_option maxHeartbeats 1600000 in
theorem heldTypeS_any (xs : List Ty) (w : World) (v : Value) (F : List Nat) (k0 : Int) (h0 : 0 ≤ k0) (hk : k0 + (sumBy cntTy xs : Nat) ≤ 1099511627776) (hx : Arr w (TyR w) (mkS mkTy cntTy k0 xs) v F) (hf : Under w.heap.size F) :
    Calls Try.prog 35 #[v, .int .i64 k0] w fun e w' => e = .returned (.int .i64 (k0 + (sumBy cntTy xs : Nat))) ∧ Below w.heap.size w w' := by
  obtain ⟨A, cap, rfl, hc1, hc2⟩ := hx.form
  rw [mkS_length] at hx hc1
  rw [mkS_length]
  have HX := Lib.hid hx
  have HF := Lib.hid hf
  have HK := Lib.hid hk

  clear hx hf hk
  go_enter Try.func35, Try.ntmps35
  go_wp2
  go_loopw [1, 5] (fun kv iv wr => ∃ i : Nat, ∃ m : Int, i ≤ xs.length ∧ iv = .int .i64 i ∧ kv = .int .i64 m ∧ 0 ≤ m ∧ Hid (m = k0 + (sumBy cntTy (xs.take i) : Nat)) ∧ Below w.heap.size w wr) (fun _ iv _ => xs.length - (intOf iv).toNat)
  case atStart => exact ⟨0, k0, Nat.zero_le _, rfl, rfl, h0, (by simp [Hid, sumBy]), Below.refl _ _⟩
  case round =>
    obtain ⟨i, m, hi, rfl, rfl, hm0, HM, hB⟩ := hrel
    by_cases hlt : i < xs.length
    · have g1 : (0 : Int) ≤ (i : Int) := by omega
      have g2 : (i : Int) < (xs.length : Int) := by omega
      obtain ⟨b, off, c, F2, rfl, hb, hc, hr, hG⟩ := HX.out.get ((fun w => TyR_len (w := w)) _) (i := i) (by rw [mkS_length]; exact hlt)
      have hge : (mkS mkTy cntTy k0 xs)[i]'(by rw [mkS_length]; exact hlt) = mkTy m xs[i] := by
        have h := mkS_get (mk := mkTy) (cnt := cntTy) (k := k0) hlt
        rw [← HM.out, List.getElem?_eq_getElem (by rw [mkS_length]; exact hlt)] at h
        exact Option.some.inj h
      rw [hge] at hr
      clear hge

      have hbl := HF.out b hb
      have hc := hc.same (hB.block b hbl)
      have hu2 := HF.out.sub hG
      clear hG hb
      have hbw := Nat.lt_of_lt_of_le hbl hB.size
      have hsum : m + (cntTy xs[i] : Nat) ≤ 1099511627776 := by
        have h1 := HM.out
        have h2 := HK.out
        have h3 := sumBy_take_le cntTy xs (i + 1)
        rw [sumBy_take_succ cntTy xs i hlt] at h3
        omega
      unfold mkTy at hr
      obtain ⟨rfl, rfl⟩ := hr
      have hcd := cntTy_def xs[i]
      rw [hcd] at hsum
      have x0 : wr.cell? ⟨b, off + i * 2, none⟩ = some (.int .i64 (m)) := hc 0 _ rfl
      have x1 : wr.cell? ⟨b, off + i * 2 + 1, none⟩ = some (.int .i64 (m + 1)) := hc 1 _ rfl
      clear hc
      have HCD := Lib.hid hcd
      clear hcd hu2
      have HM2 : Hid (m + 1 + 1 = k0 + (sumBy cntTy (xs.take (i + 1)) : Nat)) := by
        have h1 := HM.out
        have h2 := HCD.out
        unfold Hid
        rw [sumBy_take_succ cntTy xs i hlt]
        omega
      go_wp2
      go_roundw
      case rel => exact ⟨i + 1, m + 1 + 1, by omega, by go_num, rfl, by omega, HM2, hB⟩
      case measure => (simp [intOf] <;> omega)
    · have hf : Hid (m = k0 + (sumBy cntTy xs : Nat)) := by
        have h := HM.out
        rwa [List.take_of_length_le (by omega)] at h
      go_wp2
      go_ret
      exact ⟨ret_int hf.out, hB⟩
end Go.Proofs.Ytddjhneoacnkgaa

namespace Go.Proofs.Ytddjhneoacnkgaa
open Go.ChangeShapes Go.WideShapes Go.ChangeAt Go.RowKit

section
variable {H : Type} {enc : TypeId × Value → H} {P : Program} {w : World} {base : Nat} {spare : Nat → Bool} {held : Bool}

theorem cell_lt {w : World} {a : Addr} {v : Value} (h : w.cell? a = some v) : a.block < w.heap.size := by
  rcases Nat.lt_or_ge a.block w.heap.size with hl | hl
  · exact hl
  · unfold World.cell? at h
    rw [Array.getElem?_eq_none hl] at h
    cases h

theorem open_Arr {α : Type} (R : α → List Value → List Nat → Prop) {t e : TypeId} {k n fuel : Nat} {cs : List Value} {x : DataW H × List MemPlace} (ht : P.underlying t = some (.slice e)) (hk : P.cellsOf e = k) (hk0 : 0 < k) (hf : fuel = n + 1)
    (hR : ∀ ds y, DataW.trod enc P w base spare held n e ds = some y → ds.length = k → ∃ a F, R a ds F ∧ Under w.heap.size F)
    (h : DataW.trod enc P w base spare held fuel t cs = some x) : ∃ xs v F, cs = [v] ∧ Arr w R xs v F ∧ Under w.heap.size F := by
  subst hf
  rcases DataW.trod_slice ht h with ⟨rfl, -⟩ | ⟨a, len, cap, elems, rest, m, hm, rfl, -, -, hl, hmax, hlen, hel, -, -⟩
  · exact ⟨[], _, [], rfl, Arr.nil, Under.nil _⟩
  · obtain rfl : n = m := by omega
    by_cases h0 : len = 0
    · subst h0
      exact ⟨[], _, [], rfl, ⟨_, _, rfl, hl, hmax, .inl ⟨rfl, rfl⟩⟩, Under.nil _⟩
    · have get : ∀ i, i < len → ∃ ds y, (∀ j, j < k → w.cell? (a.add (i * k + j)) = ds[j]?) ∧ ds.length = k ∧ DataW.trod enc P w base spare held n e ds = some y := fun i hi => by
        have h1 := hel i hi
        rw [List.getElem?_eq_getElem (by omega), Option.bind_eq_some_iff] at h1
        obtain ⟨ds, h2, h3⟩ := h1
        obtain ⟨-, h4, h5⟩ := World.cells?_some h2
        rw [hk] at h4 h5
        refine ⟨ds, _, fun j hj => ?_, h4, h3⟩
        rw [← h5 j hj]
        congr 1
        unfold Addr.add
        by_cases e1 : i * k = 0 <;> by_cases e2 : j = 0 <;> simp [e1, e2, Nat.add_assoc]
      obtain ⟨b, off, spot⟩ := a
      obtain ⟨ds0, y0, g1, g2, -⟩ := get 0 (by omega)
      have hc0 : w.cell? ⟨b, off, spot⟩ = some (ds0[0]'(by omega)) := by
        have := g1 0 hk0
        simpa [Addr.add, List.getElem?_eq_getElem (show 0 < ds0.length by omega)] using this
      have hspot : spot = none := by simpa using World.cell?_spot hc0
      subst hspot
      have hb : b < w.heap.size := cell_lt hc0
      have key : ∀ m, m ≤ len → ∃ (xs : List α) (cs : List Value) (F : List Nat), xs.length = m ∧ cs.length = m * k ∧ CellsAt w b off cs ∧ Flat R xs cs F ∧ Under w.heap.size F := by
        intro m
        induction m with
        | zero => intro _; exact ⟨[], [], [], rfl, by simp, fun j u hj => by simp at hj, ⟨rfl, rfl⟩, Under.nil _⟩
        | succ m ih =>
          intro hm
          obtain ⟨xs, cs, F, h1, h2, h3, h4, h5⟩ := ih (by omega)
          obtain ⟨ds, y, g1, g2, g3⟩ := get m (by omega)
          obtain ⟨z, G, r1, r2⟩ := hR ds y g3 g2
          refine ⟨xs ++ [z], cs ++ ds, F ++ G, by simp [h1], by simp [h2, g2, Nat.add_mul], h3.append (fun j u hj => ?_), h4.append (Flat.one r1), fun c hc => ?_⟩
          · have hjk : j < k := by rw [← g2]; exact (List.getElem?_eq_some_iff.1 hj).1
            have := g1 j hjk
            rw [hj, Addr.add_lit] at this
            rw [h2, ← this]
            congr 2
            omega
          · rcases List.mem_append.1 hc with hc | hc
            · exact h5 c hc
            · exact r2 c hc
      obtain ⟨xs, cs, F, h1, h2, h3, h4, h5⟩ := key len (Nat.le_refl _)
      refine ⟨xs, _, b :: F, rfl, ⟨_, _, by rw [h1], by omega, hmax, .inr ⟨b, off, cs, F, rfl, h3, h4, rfl⟩⟩, fun c hc => ?_⟩
      rcases List.mem_cons.1 hc with rfl | hc
      · exact hb
      · exact h5 c hc

theorem one_field {fs : Array Field} {n : Nat} {cs : List Value} {xs : List (DataW H × List MemPlace)}
    (hf : ∀ (i : Nat) (f : Field), fs[i]? = some f → DataW.trod enc P w base spare held n f.type ((cs.drop f.offset).take (P.cellsOf f.type)) = xs[i]?)
    (hone : Deep.oneCellFields P fs = true) (hxl : xs.length = fs.size) (i : Nat) (f : Field) (hi : fs[i]? = some f) (c : Value) (hc : cs[i]? = some c) :
    ∃ y, DataW.trod enc P w base spare held n f.type [c] = some y := by
  obtain ⟨h1, h2⟩ := Deep.hone_of hone i f hi
  have h := hf i f hi
  have hlt : i < fs.size := (Array.getElem?_eq_some_iff.1 hi).1
  rw [List.getElem?_eq_getElem (show i < xs.length by omega), h1, h2] at h
  obtain ⟨hlc, hcc⟩ := List.getElem?_eq_some_iff.1 hc
  rw [List.drop_eq_getElem_cons hlc, hcc] at h
  exact ⟨_, h⟩

theorem sub_field {fs : Array Field} {n : Nat} {cs : List Value} {xs : List (DataW H × List MemPlace)}
    (hf : ∀ (i : Nat) (f : Field), fs[i]? = some f → DataW.trod enc P w base spare held n f.type ((cs.drop f.offset).take (P.cellsOf f.type)) = xs[i]?)
    (hxl : xs.length = fs.size) (i : Nat) (f : Field) (hi : fs[i]? = some f) (k off : Nat) (hk : P.cellsOf f.type = k) (ho : f.offset = off) :
    ∃ y, DataW.trod enc P w base spare held n f.type ((cs.drop off).take k) = some y := by
  have h := hf i f hi
  have hlt : i < fs.size := (Array.getElem?_eq_some_iff.1 hi).1
  rw [List.getElem?_eq_getElem (show i < xs.length by omega), hk, ho] at h
  exact ⟨_, h⟩

theorem open_slice_arg {α : Type} (R : α → List Value → List Nat → Prop) {t e : TypeId} {k : Nat} {r : Reach} {b0 : Nat} {v : Value} {d : DataW H} {ps : List MemPlace} (ht : P.underlying t = some (.slice e)) (hk : P.cellsOf e = k) (hk0 : 0 < k)
    (hR : ∀ n ds y, DataW.trod enc P w base spare held n e ds = some y → ∃ a F, R a ds F ∧ Under w.heap.size F)
    (hval : Value.okWide P w r b0 t v) (h : DataW.Trod enc P w base spare held t v d ps) : ∃ xs F, Arr w R xs v F ∧ Under w.heap.size F := by
  obtain ⟨a, len, cap, rfl⟩ := okWide_slice ht hval
  obtain ⟨fuel, hf⟩ := h
  cases fuel with
  | zero => simp [DataW.trod] at hf
  | succ n =>
    obtain ⟨xs, v, F, hv, ha, hF⟩ := open_Arr R ht hk hk0 rfl (fun ds y hd _ => hR n ds y hd) hf
    have : v = .slice a len cap := by simpa [Value.cells] using hv.symm
    subst this
    exact ⟨xs, F, ha, hF⟩
end
end Go.Proofs.Ytddjhneoacnkgaa

namespace Go.Proofs.Ytddjhneoacnkgaa
open Go.ChangeShapes Go.WideShapes Go.ChangeAt Go.RowKit
set_option maxRecDepth 100000

theorem cellsOf_lawsTy : Try.prog.cellsOf 31 = 2 := by kernel_rfl

theorem open_Ty_cells {H : Type} {enc : TypeId × Value → H} {w : World} {base : Nat} {spare : Nat → Bool} {held : Bool} (fuel : Nat) (cs : List Value) (x : DataW H × List MemPlace)
    (h : DataW.trod enc Try.prog w base spare held fuel 31 cs = some x) : ∃ v F, TyR w v cs F ∧ Under w.heap.size F := by
  obtain ⟨xs, n, rfl, -, hl, hxl, hf⟩ := DataW.trod_struct Try.underlying31 h
  rw [cellsOf_lawsTy] at hl
  match cs, hl with
  | [c0, c1], _ =>
  obtain ⟨y0, f0⟩ := sub_field hf hxl 0 _ rfl 1 0 (by kernel_rfl) rfl
  obtain ⟨i0, e0, -, -⟩ := DataW.trod_int Try.underlying3 f0
  obtain rfl : c0 = .int .i64 i0 := by simpa using e0
  obtain ⟨y1, f1⟩ := sub_field hf hxl 1 _ rfl 1 1 (by kernel_rfl) rfl
  obtain ⟨i1, e1, -, -⟩ := DataW.trod_int Try.underlying3 f1
  obtain rfl : c1 = .int .i64 i1 := by simpa using e1
  exact ⟨⟨i0, i1⟩, [], ⟨rfl, rfl⟩, Under.nil _⟩

theorem open_Ty {H : Type} {enc : TypeId × Value → H} {w : World} {base : Nat} {spare : Nat → Bool} {held : Bool} {r : Reach} {b0 : Nat} {v : Value} {d : DataW H} {ps : List MemPlace} (hval : Value.okWide Try.prog w r b0 31 v)
    (h : DataW.Trod enc Try.prog w base spare held 31 v d ps) : ∃ (x : Ty) (cs : List Value) (F : List Nat), v = .agg cs.toArray ∧ TyR w x cs F ∧ Under w.heap.size F := by
  obtain ⟨cs, rfl, -⟩ := okWide_struct Try.underlying31 hval
  obtain ⟨fuel, hf⟩ := h
  obtain ⟨x, F, h1, h2⟩ := open_Ty_cells fuel _ _ hf
  exact ⟨x, cs.toList, F, by simp, h1, h2⟩
theorem open_Tys {H : Type} {enc : TypeId × Value → H} {w : World} {base : Nat} {spare : Nat → Bool} {held : Bool} {r : Reach} {b0 : Nat} {v : Value} {d : DataW H} {ps : List MemPlace} (hval : Value.okWide Try.prog w r b0 111 v)
    (h : DataW.Trod enc Try.prog w base spare held 111 v d ps) : ∃ (x : List Ty) (F : List Nat), Arr w (TyR w) x v F ∧ Under w.heap.size F :=
  open_slice_arg (TyR w) Try.underlying111 cellsOf_lawsTy (by decide) (fun n ds y hd => open_Ty_cells n ds y hd) hval h
end Go.Proofs.Ytddjhneoacnkgaa

namespace Go.Proofs.Ytddjhneoacnkgaa
open Go.ChangeShapes Go.WideShapes Go.ChangeAt Go.RowKit
set_option maxRecDepth 100000

theorem cellsOf_lawsKt : Try.prog.cellsOf 113 = 3 := by kernel_rfl

theorem open_Kt_cells {H : Type} {enc : TypeId × Value → H} {w : World} {base : Nat} {spare : Nat → Bool} {held : Bool} (fuel : Nat) (cs : List Value) (x : DataW H × List MemPlace)
    (h : DataW.trod enc Try.prog w base spare held fuel 113 cs = some x) : ∃ v F, KtR w v cs F ∧ Under w.heap.size F := by
  obtain ⟨xs, n, rfl, -, hl, hxl, hf⟩ := DataW.trod_struct Try.underlying113 h
  rw [cellsOf_lawsKt] at hl
  match cs, hl with
  | [c0, c1, c2], _ =>
  obtain ⟨y0, f0⟩ := sub_field hf hxl 0 _ rfl 1 0 (by kernel_rfl) rfl
  obtain ⟨s0, e0, -, hs0⟩ := DataW.trod_string Try.underlying9 f0
  obtain rfl : c0 = .string s0 := by simpa using e0
  obtain ⟨y1, f1⟩ := sub_field hf hxl 1 _ rfl 1 1 (by kernel_rfl) rfl
  cases n with
  | zero => simp [DataW.trod] at f1
  | succ n =>
  obtain ⟨l1, kv, F, ek, ha, hF⟩ := open_Arr (TyR w) Try.underlying111 cellsOf_lawsTy (by decide) rfl (fun ds y hd _ => open_Ty_cells n ds y hd) f1
  obtain rfl : c1 = kv := by simpa using ek
  obtain ⟨y2, f2⟩ := sub_field hf hxl 2 _ rfl 1 2 (by kernel_rfl) rfl
  obtain ⟨i2, e2, -, -⟩ := DataW.trod_int Try.underlying3 f2
  obtain rfl : c2 = .int .i64 i2 := by simpa using e2
  exact ⟨⟨s0, l1, i2⟩, F, ⟨_, rfl, ha, (by unfold maxLen at hs0; omega)⟩, hF⟩

theorem open_Kt {H : Type} {enc : TypeId × Value → H} {w : World} {base : Nat} {spare : Nat → Bool} {held : Bool} {r : Reach} {b0 : Nat} {v : Value} {d : DataW H} {ps : List MemPlace} (hval : Value.okWide Try.prog w r b0 113 v)
    (h : DataW.Trod enc Try.prog w base spare held 113 v d ps) : ∃ (x : Kt) (cs : List Value) (F : List Nat), v = .agg cs.toArray ∧ KtR w x cs F ∧ Under w.heap.size F := by
  obtain ⟨cs, rfl, -⟩ := okWide_struct Try.underlying113 hval
  obtain ⟨fuel, hf⟩ := h
  obtain ⟨x, F, h1, h2⟩ := open_Kt_cells fuel _ _ hf
  exact ⟨x, cs.toList, F, by simp, h1, h2⟩
theorem open_Kts {H : Type} {enc : TypeId × Value → H} {w : World} {base : Nat} {spare : Nat → Bool} {held : Bool} {r : Reach} {b0 : Nat} {v : Value} {d : DataW H} {ps : List MemPlace} (hval : Value.okWide Try.prog w r b0 60 v)
    (h : DataW.Trod enc Try.prog w base spare held 60 v d ps) : ∃ (x : List Kt) (F : List Nat), Arr w (KtR w) x v F ∧ Under w.heap.size F :=
  open_slice_arg (KtR w) Try.underlying60 cellsOf_lawsKt (by decide) (fun n ds y hd => open_Kt_cells n ds y hd) hval h
end Go.Proofs.Ytddjhneoacnkgaa

namespace Go.Proofs.Ytddjhneoacnkgaa
open Go.ChangeShapes Go.WideShapes Go.ChangeAt Go.RowKit
set_option maxRecDepth 100000

theorem cellsOf_lawsDt : Try.prog.cellsOf 62 = 2 := by kernel_rfl

theorem open_Dt_cells {H : Type} {enc : TypeId × Value → H} {w : World} {base : Nat} {spare : Nat → Bool} {held : Bool} (fuel : Nat) (cs : List Value) (x : DataW H × List MemPlace)
    (h : DataW.trod enc Try.prog w base spare held fuel 62 cs = some x) : ∃ v F, DtR w v cs F ∧ Under w.heap.size F := by
  obtain ⟨xs, n, rfl, -, hl, hxl, hf⟩ := DataW.trod_struct Try.underlying62 h
  rw [cellsOf_lawsDt] at hl
  match cs, hl with
  | [c0, c1], _ =>
  obtain ⟨y0, f0⟩ := sub_field hf hxl 0 _ rfl 1 0 (by kernel_rfl) rfl
  obtain ⟨s0, e0, -, hs0⟩ := DataW.trod_string Try.underlying9 f0
  obtain rfl : c0 = .string s0 := by simpa using e0
  obtain ⟨y1, f1⟩ := sub_field hf hxl 1 _ rfl 1 1 (by kernel_rfl) rfl
  cases n with
  | zero => simp [DataW.trod] at f1
  | succ n =>
  obtain ⟨l1, kv, F, ek, ha, hF⟩ := open_Arr (KtR w) Try.underlying60 cellsOf_lawsKt (by decide) rfl (fun ds y hd _ => open_Kt_cells n ds y hd) f1
  obtain rfl : c1 = kv := by simpa using ek
  exact ⟨⟨s0, l1⟩, F, ⟨_, rfl, ha, (by unfold maxLen at hs0; omega)⟩, hF⟩

theorem open_Dt {H : Type} {enc : TypeId × Value → H} {w : World} {base : Nat} {spare : Nat → Bool} {held : Bool} {r : Reach} {b0 : Nat} {v : Value} {d : DataW H} {ps : List MemPlace} (hval : Value.okWide Try.prog w r b0 62 v)
    (h : DataW.Trod enc Try.prog w base spare held 62 v d ps) : ∃ (x : Dt) (cs : List Value) (F : List Nat), v = .agg cs.toArray ∧ DtR w x cs F ∧ Under w.heap.size F := by
  obtain ⟨cs, rfl, -⟩ := okWide_struct Try.underlying62 hval
  obtain ⟨fuel, hf⟩ := h
  obtain ⟨x, F, h1, h2⟩ := open_Dt_cells fuel _ _ hf
  exact ⟨x, cs.toList, F, by simp, h1, h2⟩
theorem open_Dts {H : Type} {enc : TypeId × Value → H} {w : World} {base : Nat} {spare : Nat → Bool} {held : Bool} {r : Reach} {b0 : Nat} {v : Value} {d : DataW H} {ps : List MemPlace} (hval : Value.okWide Try.prog w r b0 22 v)
    (h : DataW.Trod enc Try.prog w base spare held 22 v d ps) : ∃ (x : List Dt) (F : List Nat), Arr w (DtR w) x v F ∧ Under w.heap.size F :=
  open_slice_arg (DtR w) Try.underlying22 cellsOf_lawsDt (by decide) (fun n ds y hd => open_Dt_cells n ds y hd) hval h
end Go.Proofs.Ytddjhneoacnkgaa
