/-
  Lemmas and contracts of functions: l1Copy of the reference: a deep copy of a world. Conditions: no list of it is longer than 100. l1Mutate of the reference: a copy of a world, sometimes made invalid. Conditions: its lists are short; the reader has given no more than 900000 numbers. Drawn worlds and types. Conditions: none. argTypes of the program. Conditions: the constructor is one of the world. l1Args of the reference. Conditions: the constructor is one of the world. ctorsOf of the program: the constructors that can make values of a type. Conditions: the type lies in the world, the world is not too large. ctorOk of the program: a constructor within the limits, by slices.ContainsFunc and a closure. Conditions: none. A look-up in a map whose elements are booleans, as an equation. Conditions: none. WorldValid of the program, with its two maps. Conditions: none. TypeValid of the reference and of the program. Conditions: none. l1Ctors of the reference, and CtorsOf of both. Conditions: none for CtorsOf. A number in a list: slices.Contains and l1Has. Conditions: none. ArgTypes of the reference and of the program. Conditions: none. Least depths of values, in plain Lean: sweeps over a table reach a fixed point after ls many sweeps ls there are entries and one more. Conditions: the world is valid.
-/
import Derived.Test.YtbejcgknjnhdpaaFnLeastDepthPb
import Derived.Deep.RegionWith
import Derived.Test.YtbejcgknjnhdpaaFnLeastDepthPa
import Derived.Test.YtbejcgknjnhdpaaChecked
import Derived.Laws.EntriesVeiled
import Derived.Maps.OwnOps
import Derived.Maps.Views
import Derived.Maps.Own
import Derived.StringKeys
import Derived.Deep.RegionHeld3

set_option linter.unusedVariables false
set_option linter.unusedSimpArgs false

namespace Go.Proofs.Ytbejcgknjnhdpaa
open Go.RowKit

def dtk (xs : List Dt) (d : Nat) : List Dt := xs.take d
def ktk (cs : List Kt) (k : Nat) : List Kt := cs.take k
theorem dtk_len (xs : List Dt) (d : Nat) : (dtk xs d).length ≤ d := by unfold dtk; rw [List.length_take]; omega
theorem ktk_len (cs : List Kt) (k : Nat) : (ktk cs k).length ≤ k := by unfold ktk; rw [List.length_take]; omega
theorem dtk_succ (xs : List Dt) (d : Nat) (h : d < xs.length) : dtk xs (d + 1) = dtk xs d ++ [xs[d]] := take_snoc' xs d h
theorem ktk_succ (cs : List Kt) (k : Nat) (h : k < cs.length) : ktk cs (k + 1) = ktk cs k ++ [cs[k]] := take_snoc' cs k h
theorem dtk_all (xs : List Dt) {d : Nat} (h : xs.length ≤ d) : dtk xs d = xs := List.take_of_length_le h
theorem ktk_all (cs : List Kt) {k : Nat} (h : cs.length ≤ k) : ktk cs k = cs := List.take_of_length_le h
theorem Own.free_row {α : Type} {w : World} {B k : Nat} {E : TypeId} {R : World → α → List Value → List Nat → Prop} {xs : List α} {v : Value} {F : List Nat} (h : Own w B E k R xs v F) : Free w (rowOf v) := by
  obtain ⟨cs, h1, -⟩ := h
  rcases h1.2 with ⟨rfl, -⟩ | ⟨g, cap, cur, rfl, hb, hg, -⟩
  · exact Free.nil _
  · rw [rowOf_some]
    exact ⟨by simp, fun b hb' i => by rw [List.mem_singleton] at hb'; subst hb'; simp [World.frozen?, hg]⟩
theorem TyR_one (w : World) (x : Ty) (cs : List Value) (G : List Nat) (h : TyR w x cs G) : ∀ u ∈ cs, u.oneCell' = true := by
  obtain ⟨rfl, -⟩ := h
  simp [Value.oneCell']
theorem wpList_append_run {P : Program} {w : World} {ops : Array Oper} {rest : List Oper} {o : Oper} {a : Act} {Q : Exit → Act → World → Prop} (hgd : o.guard = none) (s x : Operand) (t : TypeId)
    (ho : o.op = .call { callee := .builtin .append, args := #[s, x], argTypes := #[t, t] }) {sv xv v' : Value} {w' : World} (hs : a.eval s = sv) (hx : a.eval x = xv)
    (hr : (Builtin.append_ #[t, t] o.type #[sv, xv]).run P w = .ok v' w') (h : wpList P ops Q rest (a.put o.dst v') w') : wpList P ops Q (o :: rest) a w := by
  refine wpList_plain hgd fun K hK => ?_
  unfold Oper.wp execOp
  simp only [ho, resolve, invoke, builtin, Sem.run_bind, Sem.run_pure, Result.andThen_ok, List.map_toArray, List.map_cons, List.map_nil, hs, hx, hr]
  exact hK _ _ h
set_option maxRecDepth 100000 in
set_option maxHeartbeats 6400000 in
theorem spec_l1Copy (xs : List Dt) (w : World) (v : Value) (F : List Nat) (hx : Arr w (DtR w) xs v F) (hf : Under w.heap.size F) (hl : xs.length ≤ 100) (hsm : SmallW 100 xs) :
    Calls Try.prog 48 #[v] w fun e w' => ∃ v' F', e = .returned v' ∧ Below w.heap.size w w' ∧ Own w' w.heap.size 28 2 DtO xs v' F' ∧ Free w' F' ∧ (∀ b ∈ F', w.heap.size + 1 ≤ b) := by
  obtain ⟨A, cap, rfl, hc1, hc2⟩ := hx.form
  obtain ⟨i0, hi, hz0, hz1, hz2⟩ := info_parts info_KtE
  have HI := Lib.hid hi
  have HZ0 := Lib.hid hz0
  have HZ1 := Lib.hid hz1
  have HZ2 := Lib.hid hz2
  clear hi hz0 hz1 hz2
  obtain ⟨j0, hj, hj0, hj1, hj2⟩ := info_parts info_tyE
  have HJ := Lib.hid hj
  have HJ0 := Lib.hid hj0
  have HJ1 := Lib.hid hj1
  have HJ2 := Lib.hid hj2
  clear hj hj0 hj1 hj2
  obtain ⟨m0, hm, hm0, hm1, hm2⟩ := info_parts info_DtE
  have HM := Lib.hid hm
  have HM0 := Lib.hid hm0
  have HM1 := Lib.hid hm1
  have HM2 := Lib.hid hm2
  clear hm hm0 hm1 hm2
  have HSM := Lib.hid hsm
  have HX := Lib.hid hx
  have HF := Lib.hid hf
  clear hx hf
  clear hsm
  go_enter Try.func48, Try.ntmps48
  go_wp2
  have hB1 : Below w.heap.size w (w.alloc (.cells #[] 28)) := (Below.refl _ _).alloc (Nat.le_refl _) _
  have HO1 : Hid (Own (w.alloc (.cells #[] 28)) w.heap.size 28 2 DtO (dtk xs 0) (.slice (some ⟨w.heap.size, 0, none⟩) 0 0) []) := Own.made w w.heap.size 28 2 DtO #[] 0 (Nat.le_refl _) (by simp [maxLen]) rfl
  have hw1 : (w.alloc (.cells #[] 28)).heap.size = w.heap.size + 1 := World.size_alloc _ _
  obtain ⟨w1, hw1e⟩ : ∃ w1, w1 = w.alloc (.cells #[] 28) := ⟨_, rfl⟩
  rw [← hw1e] at hB1 HO1 hw1 ⊢
  clear hw1e
  go_loopw [3, 4] (fun ov dv wr => ∃ d : Nat, ∃ Fo : List Nat, d ≤ xs.length ∧ dv = .int .i64 d ∧ Hid (Own wr w.heap.size 28 2 DtO (dtk xs d) ov Fo) ∧ Hid (Free wr Fo) ∧ Hid (∀ b ∈ Fo, w1.heap.size ≤ b) ∧ Hid (Chg [w.heap.size] w1 wr) ∧ Below w.heap.size w wr ∧ w1.heap.size ≤ wr.heap.size) (fun _ dv _ => xs.length - (intOf dv).toNat)
  case atStart => exact ⟨0, [], Nat.zero_le _, rfl, HO1, Free.nil _, (fun b hb => by cases hb), Chg.refl _ _, hB1, Nat.le_refl _⟩
  case round =>
    clear hB1 HO1
    obtain ⟨d, Fo, hd, rfl, HO, HFr, HFh, HC, hB, hwr⟩ := hrel
    by_cases hdl : d < xs.length
    · obtain ⟨b, off, rfl⟩ := HX.out.ptr (by omega)
      have g1 : (0 : Int) ≤ (d : Int) := by omega
      have g2 : (d : Int) < (xs.length : Int) := by omega
      obtain ⟨A1, cap1, G1, hbw, c0w, c1w, HK, HG, hns, hn1, hn2⟩ := ArrDt.at HX.out HF.out (Below.refl _ _) d hdl
      have c0 := (hB.cell (p := ⟨b, off + d * 2, none⟩) hbw).trans c0w
      have hb : b < wr.heap.size := Nat.lt_of_lt_of_le hbw hB.size
      have hcl : xs[d].ctors.length ≤ 100 := (HSM.out _ (List.getElem_mem hdl)).1
      have hdk := dtk_len xs d
      have HB8 : Hid (∀ b ∈ rowOf u3 ++ Fo, b < wr.heap.size) := fun b hb => by
        rcases List.mem_append.1 hb with h | h
        · exact (HO.out.row b h).2
        · exact HO.out.under b h
      obtain ⟨w8, hw8⟩ : ∃ w8, w8 = wr := ⟨_, rfl⟩
      rw [← hw8] at HO HFr HC hB hwr c0 hb HB8 ⊢
      clear hw8
      have hw9 : Below w8.heap.size w8 (w8.alloc (.cells #[.string xs[d].name, .slice none 0 0] 28)) := (Below.refl _ _).alloc (Nat.le_refl _) _
      have HO9 : Hid (Own (w8.alloc (.cells #[.string xs[d].name, .slice none 0 0] 28)) w.heap.size 28 2 DtO (dtk xs d) u3 Fo) := HO.out.below (fun x cs G hk h => DtO_mono _ _ x cs G hk h) hw9
      have HFr9 : Hid (Free (w8.alloc (.cells #[.string xs[d].name, .slice none 0 0] 28)) Fo) := HFr.out.kept (.of_below hw9 HO.out.under)
      have HC9 : Hid (Chg [w.heap.size] w1 (w8.alloc (.cells #[.string xs[d].name, .slice none 0 0] 28))) := HC.out.step hw9
      have KD9 : Hid (Blk (w8.alloc (.cells #[.string xs[d].name, .slice none 0 0] 28)) w8.heap.size 28 #[.string xs[d].name, .slice none 0 0]) := Blk.new _ _ _
      have hB9 := hB.trans (hw9.mono hB.size)
      have hw9s : (w8.alloc (.cells #[.string xs[d].name, .slice none 0 0] 28)).heap.size = w8.heap.size + 1 := World.size_alloc _ _
      have hHD8 : w.heap.size ≤ w8.heap.size := hB.size
      have HR : Hid (∀ g ∈ rowOf u3, g = w.heap.size ∨ w1.heap.size ≤ g) := fun g hg => by have := (HO.out.row g hg).1; omega
      go_wp2
      obtain ⟨w9, hw9e⟩ : ∃ w9, w9 = w8.alloc (.cells #[.string xs[d].name, .slice none 0 0] 28) := ⟨_, rfl⟩
      rw [← hw9e] at HO9 HFr9 HC9 KD9 hB9 hw9s ⊢
      clear hw9 hw9e HO HFr HC hB c0 hb
      go_loopw [6] (fun kv' wr => ∃ k : Nat, ∃ kv : Value, ∃ Fk : List Nat, k ≤ xs[d].ctors.length ∧ kv' = .int .i64 k ∧ Hid (Blk wr w8.heap.size 28 #[.string xs[d].name, kv]) ∧ Hid (Own wr (w8.heap.size + 1) 31 3 KtO (ktk xs[d].ctors k) kv Fk) ∧ Hid (Free wr Fk) ∧ Hid (∀ b ∈ Fk, w8.heap.size + 1 ≤ b) ∧ Hid (Chg [w8.heap.size] w9 wr) ∧ Below w.heap.size w wr ∧ w9.heap.size ≤ wr.heap.size) (fun kv' _ => xs[d].ctors.length - (intOf kv').toNat)
      case atStart => exact ⟨0, _, [], Nat.zero_le _, rfl, KD9, (show Own _ _ _ _ _ (ktk xs[d].ctors 0) _ _ from Own.nil _ _ _ _ _), Free.nil _, (fun b hb => by cases hb), Chg.refl _ _, hB9, Nat.le_refl _⟩
      case round =>
        clear hB9 KD9
        obtain ⟨k, kv, Fk, hkl, rfl, KD, HOk, HFk, HFkh, HCk, hB, hw9r⟩ := hrel
        obtain ⟨kA, kcap, hkv, hkc1, hkc2⟩ := HOk.out.form
        subst hkv
        have z0 : wr.cell? ⟨w8.heap.size, 0, none⟩ = some (.string xs[d].name) := (KD.out.cell 0).trans (by simp)
        have z1 : wr.cell? ⟨w8.heap.size, 1, none⟩ = some (.slice kA (ktk xs[d].ctors k).length kcap) := (KD.out.cell 1).trans (by simp)
        have zf1 := KD.out.frozen 1
        have hkz := KD.out.lt
        have c1 := (hB.cell (p := ⟨b, off + d * 2 + 1, none⟩) hbw).trans c1w
        have hbr : b < wr.heap.size := Nat.lt_of_lt_of_le hbw hB.size
        by_cases hlt : k < xs[d].ctors.length
        · obtain ⟨b2, off2, rfl⟩ := HK.out.ptr (by omega)
          obtain ⟨A3, cap3, G3, hb3, k0, k1, k2, HKT, HG3, hks, hn3, hn4⟩ := ArrKt.rep HK.out HG.out hB k hlt
          have g3 : (0 : Int) ≤ (k : Int) := by omega
          have g4 : (k : Int) < (xs[d].ctors.length : Int) := by omega
          have hal : xs[d].ctors[k].args.length ≤ 100 := (HSM.out _ (List.getElem_mem hdl)).2 _ (List.getElem_mem hlt)
          have hkk := ktk_len xs[d].ctors k
          have harg : Arr w (TyR w) xs[d].ctors[k].args (.slice A3 xs[d].ctors[k].args.length cap3) G3 := by
            obtain ⟨kv, hkv, ha, -⟩ := HKT.out
            have : kv = .slice A3 xs[d].ctors[k].args.length cap3 := by simpa using (List.cons.inj (List.cons.inj hkv).2).1.symm
            rw [← this]; exact ha
          have ha1 : Below wr.heap.size wr (wr.alloc (.cells #[.string xs[d].ctors[k].name, .slice A3 xs[d].ctors[k].args.length cap3, .int .i64 xs[d].ctors[k].idx] 31)) := (Below.refl _ _).alloc (Nat.le_refl _) _
          have ha2 : Below wr.heap.size wr ((wr.alloc (.cells #[.string xs[d].ctors[k].name, .slice A3 xs[d].ctors[k].args.length cap3, .int .i64 xs[d].ctors[k].idx] 31)).alloc (.cells #[] 33)) := ha1.alloc ha1.size _
          have hos : Own ((wr.alloc (.cells #[.string xs[d].ctors[k].name, .slice A3 xs[d].ctors[k].args.length cap3, .int .i64 xs[d].ctors[k].idx] 31)).alloc (.cells #[] 33)) 0 33 2 TyR ([] : List Ty) (.slice (some ⟨wr.heap.size + 1, 0, none⟩) 0 0) [] := by
            have h := Own.made (wr.alloc (.cells #[.string xs[d].ctors[k].name, .slice A3 xs[d].ctors[k].args.length cap3, .int .i64 xs[d].ctors[k].idx] 31)) 0 33 2 TyR #[] 0 (Nat.zero_le _) (by simp [maxLen]) rfl
            rwa [World.size_alloc] at h
          have hKC : Blk ((wr.alloc (.cells #[.string xs[d].ctors[k].name, .slice A3 xs[d].ctors[k].args.length cap3, .int .i64 xs[d].ctors[k].idx] 31)).alloc (.cells #[] 33)) wr.heap.size 31 #[.string xs[d].ctors[k].name, .slice A3 xs[d].ctors[k].args.length cap3, .int .i64 xs[d].ctors[k].idx] := (Blk.new wr _ _).same (Below.heap_alloc _ _ _ (by simp))
          have hsz2 : ((wr.alloc (.cells #[.string xs[d].ctors[k].name, .slice A3 xs[d].ctors[k].args.length cap3, .int .i64 xs[d].ctors[k].idx] 31)).alloc (.cells #[] 33)).heap.size = wr.heap.size + 2 := by simp
          have hAB := ArrTy.below harg (hB.trans (ha2.mono hB.size)) HG3.out
          obtain ⟨v', wc, hrun, hoc, hgc, hrc⟩ := run_append_whole (P := Try.prog) (R := TyR ((wr.alloc (.cells #[.string xs[d].ctors[k].name, .slice A3 xs[d].ctors[k].args.length cap3, .int .i64 xs[d].ctors[k].idx] 31)).alloc (.cells #[] 33))) (RR := TyR) (B := 0) (k := 2) (E := 33) 29 29 j0 _ 16 Try.underlying29 HJ.out HJ0.out HJ1.out HJ2.out rfl (by decide) (fun x cs G h => TyR_len x cs G h) (fun x cs G h => TyR_one _ x cs G h) (fun w' x cs G h => ⟨h.1, rfl⟩) hos hAB (by omega) (by omega) (Nat.zero_le _)
          obtain ⟨vA, vcap, hv', hvc1, hvc2⟩ := hoc.form
          subst hv'
          generalize hwb : ((wr.alloc (.cells #[.string xs[d].ctors[k].name, .slice A3 xs[d].ctors[k].args.length cap3, .int .i64 xs[d].ctors[k].idx] 31)).alloc (.cells #[] 33)) = wb at *
          have kb1 : wb.cell? ⟨wr.heap.size, 1, none⟩ = some (.slice A3 xs[d].ctors[k].args.length cap3) := (hKC.cell 1).trans (by simp)
          have hKCc : Blk wc wr.heap.size 31 #[.string xs[d].ctors[k].name, .slice A3 xs[d].ctors[k].args.length cap3, .int .i64 xs[d].ctors[k].idx] := hKC.same (hgc.block _ (by omega) (fun e => by injection e; omega))
          have hbc : Below wr.heap.size wr wc := ha2.grown hgc (by omega) (fun g hg => by injection hg; omega)
          have hcz : wb.heap.size ≤ wc.heap.size := hgc.size
          have hrw : ∀ x ∈ rowOf (.slice vA xs[d].ctors[k].args.length vcap), wr.heap.size + 1 ≤ x := fun x hx => by rcases hrc x hx with h | h <;> omega
          have hx1 : wc.cell? ⟨w8.heap.size, 1, none⟩ = some (.slice kA (ktk xs[d].ctors k).length kcap) := (hbc.cell hkz).trans z1
          have hxf : wc.frozen? ⟨w8.heap.size, 1, none⟩ = false := (hbc.frozen hkz).trans zf1
          have y0 : wc.cell? ⟨wr.heap.size, 0, none⟩ = some (.string xs[d].ctors[k].name) := (hKCc.cell 0).trans (by simp)
          have y1 : wc.cell? ⟨wr.heap.size, 1, none⟩ = some (.slice A3 xs[d].ctors[k].args.length cap3) := (hKCc.cell 1).trans (by simp)
          have y2 : wc.cell? ⟨wr.heap.size, 2, none⟩ = some (.int .i64 xs[d].ctors[k].idx) := (hKCc.cell 2).trans (by simp)
          have yf1 := hKCc.frozen 1
          have hne : wr.heap.size ≠ w8.heap.size := by omega
          have hcs : wr.heap.size < wc.heap.size := hKCc.lt
          have hBu : Hid (Below wr.heap.size wr (wc.setCell ⟨wr.heap.size, 1, none⟩ (.slice vA xs[d].ctors[k].args.length vcap))) := hbc.setCell (Nat.le_refl _) _
          have hod := Own.set (j := 1) (b := wr.heap.size) TyR_mono' hoc (.slice vA xs[d].ctors[k].args.length vcap) (fun h => by have := hrw _ h; omega) (fun h => by cases h)
          have hrd := hod.row
          have HKO : Hid (KtO (wc.setCell ⟨wr.heap.size, 1, none⟩ (.slice vA xs[d].ctors[k].args.length vcap)) xs[d].ctors[k] [.string xs[d].ctors[k].name, .slice vA xs[d].ctors[k].args.length vcap, .int .i64 xs[d].ctors[k].idx] (rowOf (.slice vA xs[d].ctors[k].args.length vcap))) := ⟨_, rfl, hod, rfl, hks⟩
          have HfrA := Lib.hid hod.free_row
          have HfsA : Hid (∀ b ∈ rowOf (.slice vA xs[d].ctors[k].args.length vcap), wr.heap.size ≤ b ∧ b < (wc.setCell ⟨wr.heap.size, 1, none⟩ (.slice vA xs[d].ctors[k].args.length vcap)).heap.size) := fun b hb => ⟨by have := hrw b hb; omega, (hrd b hb).2⟩
          have HOA : Hid (Own (wc.setCell ⟨wr.heap.size, 1, none⟩ (.slice vA xs[d].ctors[k].args.length vcap)) (w8.heap.size + 1) 31 3 KtO (ktk xs[d].ctors k) (.slice kA (ktk xs[d].ctors k).length kcap) Fk) := HOk.out.below (fun x cs G hk h => KtO_mono _ _ x cs G hk h) hBu.out
          have HF2 := Lib.hid (ktk_succ xs[d].ctors k hlt)
          have HRUN := Lib.hid hrun
          have hbs2 : w8.heap.size + 1 ≤ (wc.setCell ⟨wr.heap.size, 1, none⟩ (.slice vA xs[d].ctors[k].args.length vcap)).heap.size := by have := hBu.out.size; omega
          clear hrun hod hrd hrw hrc hoc hgc hbc hKC hKCc ha1 ha2 hos hAB harg
          go_wp2_with (at_builtin; refine Halt.mk ?_)
          try rw [hwb]
          refine Halt.of (wpList_append_run rfl _ _ 29 rfl (by rfl) (by rfl) HRUN.out ?_)
          go_wp2_with (at_builtin; refine Halt.mk ?_)
          refine Halt.of (wpList_push1 (P := Try.prog) rfl _ _ 26 rfl i0 _ 48 Try.underlying26 HI.out HZ0.out HZ1.out HZ2.out rfl (by decide) KtO_len KtO_mono (by rfl) HOA.out xs[d].ctors[k] 31 [.string xs[d].ctors[k].name, .slice vA xs[d].ctors[k].args.length vcap, .int .i64 xs[d].ctors[k].idx] (rowOf (.slice vA xs[d].ctors[k].args.length vcap)) wc.heap.size (by rfl) (by simp [World.setCell]) (by simp [Value.oneCell']) HKO.out (fun b hb => (HfsA.out b hb).2) (fun g hg hG => Nat.lt_irrefl _ (Nat.lt_of_lt_of_le (HOk.out.row g hg).2 (HfsA.out g hG).1)) (by unfold maxLen; omega) (by omega) hbs2 ?_)
          intro g cp w7 hown7 hgr7 hat7
          have z71 : w7.cell? ⟨w8.heap.size, 1, none⟩ = some (.slice kA (ktk xs[d].ctors k).length kcap) := (World.cell?_of_block (a := ⟨w8.heap.size, 1, none⟩) (grow_old HOk.out hBu.out hgr7 (Nat.lt_succ_self _) hkz)).trans z1
          have zf71 : w7.frozen? ⟨w8.heap.size, 1, none⟩ = false := (World.frozen?_of_block (a := ⟨w8.heap.size, 1, none⟩) (grow_old HOk.out hBu.out hgr7 (Nat.lt_succ_self _) hkz)).trans zf1
          obtain ⟨r1, r2, r3, r4, r5, r6, r7⟩ := grow_round KtO_mono hw9s KD.out HOk.out HFk.out HFkh.out HCk.out hB hHD8 (Nat.le_refl _) hBu.out HfrA.out HfsA.out hown7 hgr7
          have R1 := Lib.hid r1
          have R2 := Lib.hid r2
          have R3 := Lib.hid r3
          have R4 := Lib.hid r4
          have R5 := Lib.hid r5
          have R6 := Lib.hid r6
          clear r1 r2 r3 r4 r5 r6 hown7 hgr7 hat7
          go_wp2
          go_roundw
          case rel => exact ⟨k + 1, _, _, hlt, by go_num, R1, by rw [HF2.out]; exact R2.out, R3, R4, R5, R6.out, r7⟩
          case measure => (simp [intOf] <;> omega)
        · have HF2 := Lib.hid (dtk_succ xs d hdl)
          have hOr : Hid (Own wr w.heap.size 28 2 DtO (dtk xs d) u3 Fo) := Own.mono (w := w9) (fun x cs G hk h => DtO_mono _ _ x cs G hk h) HO9.out (HCk.out.kept (fun b hb => by have := HB8.out b hb; omega) (fun b hb => by have := HB8.out b hb; simp; omega)) HCk.out.size
          have hFrr : Hid (Free wr Fo) := HFr9.out.kept (HCk.out.kept (fun b hb => by have := HB8.out b (List.mem_append.2 (.inr hb)); omega) (fun b hb => by have := HB8.out b (List.mem_append.2 (.inr hb)); simp; omega))
          have hw18 : w1.heap.size ≤ w8.heap.size := hwr
          have hCr : Hid (Chg [w.heap.size] w1 wr) := HC9.out.trans_new HCk.out hw18
          have hka : ktk xs[d].ctors k = xs[d].ctors := ktk_all _ (by omega)
          have harr := HOk.out.arr
          have hfree := HOk.out.free HFk.out
          have hrk := HOk.out.row
          have hff : ∀ b ∈ (if ktk xs[d].ctors k = [] then [] else rowOf (.slice kA (ktk xs[d].ctors k).length kcap) ++ Fk), w8.heap.size + 1 ≤ b ∧ b < wr.heap.size := fun b hb => by
            split at hb
            · cases hb
            · rcases List.mem_append.1 hb with h | h
              · exact hrk b h
              · exact ⟨HFkh.out b h, HOk.out.under b h⟩
          generalize (if ktk xs[d].ctors k = [] then [] else rowOf (.slice kA (ktk xs[d].ctors k).length kcap) ++ Fk) = FF at harr hfree hff
          have HFF := Lib.hid hff
          have HFREE := Lib.hid hfree
          have HDX : Hid (DtO wr xs[d] [.string xs[d].name, .slice kA (ktk xs[d].ctors k).length kcap] FF) := ⟨_, rfl, by rw [hka] at harr ⊢; exact harr, hns⟩
          have hbs : w.heap.size ≤ wr.heap.size := hB.size
          clear harr hfree hrk hff HOk HFk HFkh HO9 HFr9 HC9 hka
          go_wp2_with (at_builtin; refine Halt.mk ?_)
          refine Halt.of (wpList_push1 (P := Try.prog) rfl _ _ 23 rfl m0 _ 40 Try.underlying23 HM.out HM0.out HM1.out HM2.out rfl (by decide) DtO_len DtO_mono (by rfl) hOr.out xs[d] 28 [.string xs[d].name, .slice kA (ktk xs[d].ctors k).length kcap] FF _ (by rfl) rfl (by simp [Value.oneCell']) HDX.out (fun b hb => (HFF.out b hb).2) (fun g hg hG => by have h1 := HB8.out g (List.mem_append.2 (.inl hg)); have h2 := (HFF.out g hG).1; omega) (by unfold maxLen; omega) (by omega) hbs ?_)
          intro g cp w7 hown7 hgr7 hat7
          obtain ⟨r1, r2, r3, r4, r5, r6⟩ := push_round (n := (dtk xs d).length + 1) (cp := cp) hOr.out hFrr.out HFREE.out HB8.out HFF.out HR.out hCr.out hB (Nat.le_refl _) HFh.out hw18 hgr7 hat7
          have R1 := Lib.hid r1
          have R2 := Lib.hid r2
          have R4 := Lib.hid r4
          have R5 := Lib.hid r5
          have HO7 := Lib.hid hown7
          clear r1 r2 r3 r4 r5 hown7 hgr7 hat7
          go_wp2
          go_roundw
          case rel => exact ⟨d + 1, Fo ++ FF, hdl, by go_num, by rw [HF2.out]; exact HO7.out, R1, R2, R4, R5.out, r6⟩
          case measure => (simp [intOf] <;> omega)
    · have hfin : Own wr w.heap.size 28 2 DtO xs u3 Fo := by
        have h := HO.out
        rw [dtk_all xs (by omega)] at h
        exact h
      have HFin := Lib.hid hfin
      clear hfin HO
      go_wp2
      go_ret
      exact ⟨_, Fo, rfl, hB, HFin.out, HFr.out, fun b hb => by have := HFh.out b hb; omega⟩
end Go.Proofs.Ytbejcgknjnhdpaa

namespace Go.Proofs.Ytbejcgknjnhdpaa
open Go.RowKit

def LitN (w : World) (b : Nat) (ls : List Int) : Prop := b < w.heap.size ∧ Arr w (NatR w) ls (.slice (some ⟨b, 0, none⟩) ls.length ls.length) [b]
theorem LitN.new (w : World) (ls : List Int) (hl : ls.length ≤ 1000) : LitN (w.alloc (.cells (ls.map (Value.int .i64)).toArray 3)) w.heap.size ls := ⟨by simp, lit_nums w ls hl⟩
theorem LitN.chg {w w' : World} {b : Nat} {ls : List Int} {F : List Nat} (h : LitN w b ls) (hc : Chg F w w') (hb : b ∉ F) : LitN w' b ls :=
  ⟨Nat.lt_of_lt_of_le h.1 hc.size, h.2.mono (hc.kept (fun x hx => by rw [List.mem_singleton.1 hx]; exact h.1) (fun x hx => by rw [List.mem_singleton.1 hx]; exact hb)) fun _ _ _ _ _ h => h⟩
theorem LitN.alloc {w : World} {b : Nat} {ls : List Int} (h : LitN w b ls) (o : Obj) : LitN (w.alloc o) b ls := h.chg (F := []) (.of_below ((Below.refl _ _).alloc (Nat.le_refl _) _)) (by simp)
theorem LitN.new2 (w : World) (o : Obj) (ls : List Int) (hl : ls.length ≤ 1000) : LitN ((w.alloc o).alloc (.cells (ls.map (Value.int .i64)).toArray 3)) (w.heap.size + 1) ls := by
  have h := LitN.new (w.alloc o) ls hl
  rwa [World.size_alloc] at h
theorem Chg.alloc {F : List Nat} {w w' : World} (h : Chg F w w') (o : Obj) : Chg F w (w'.alloc o) := h.step ((Below.refl _ _).alloc (Nat.le_refl _) _)
theorem num_at {w : World} {b : Nat} {ls : List Int} (hb : LitN w b ls) (hl1 : 1 ≤ ls.length) (hl2 : ls.length ≤ 1000) (p g : Nat) (h : Rd w g p) (hp : p ≤ 1000000) (hg : b ≠ g) :
    Calls Try.prog 39 #[.pointer (some ⟨g, 0, none⟩), .slice (some ⟨b, 0, none⟩) ls.length ls.length] w fun e w' => ∃ x, e = .returned (.int .i64 x) ∧ Rd w' g (p + 1) ∧ Chg [g] w w' := by
  refine (num_any ls hl1 hl2 p g w h hp _ _ hb.2 (fun x hx => by rw [List.mem_singleton.1 hx]; exact hb.1) (fun e => hg (List.mem_singleton.1 e).symm)).mono ?_
  rintro e w' ⟨x, -, rfl, hR, hC⟩
  exact ⟨x, rfl, hR, hC⟩
theorem Chg.undrewN {F : List Nat} {w w' : World} (h : Chg F w.drew w') : Chg F w w' := ⟨h.os, h.tape, h.output, h.size, h.block⟩

set_option maxRecDepth 100000 in
set_option maxHeartbeats 6400000 in
theorem spec_l1Mutate (p g : Nat) (w : World) (h : Rd w g p) (hp : p ≤ 900000) (xs : List Dt) (v : Value) (F : List Nat) (hx : Arr w (DtR w) xs v F) (hf : Under w.heap.size F) (h0 : 0 < xs.length) (hl : xs.length ≤ 99) (hs : SmallW 50 xs) :
    Calls Try.prog 27 #[.pointer (some ⟨g, 0, none⟩), v] w (Mutd g p xs w) := by
  have hgl := h.lt
  have HR0 := Lib.hid h
  have HCALL := Lib.hid (spec_l1Copy xs w v F hx hf (by omega) (hs.mono (by omega)))
  have HSM := Lib.hid hs
  clear h hx hf hs
  obtain ⟨j0, hj, hj0, hj1, hj2⟩ := info_parts info_tyE
  have HJ := Lib.hid hj
  have HJ0 := Lib.hid hj0
  have HJ1 := Lib.hid hj1
  have HJ2 := Lib.hid hj2
  clear hj hj0 hj1 hj2
  obtain ⟨m0, hm, hm0, hm1, hm2⟩ := info_parts info_DtE
  have HM := Lib.hid hm
  have HM0 := Lib.hid hm0
  have HM1 := Lib.hid hm1
  have HM2 := Lib.hid hm2
  clear hm hm0 hm1 hm2
  go_enter Try.func27, Try.ntmps27
  go_wp2_with fail
  refine HCALL.out.mono ?_
  rintro e w1 ⟨v1, F1, rfl, hb1, ho1, hfr1, hfs1⟩
  have hCpy : Cpy g p xs v1 F1 w w1 := ⟨HR0.out.below hb1, Chg.of_below hb1, ho1, hfr1, fun b hb => by have := hfs1 b hb; omega, hgl⟩
  obtain ⟨A1, cap1, rfl, hc1, hc2⟩ := ho1.form
  obtain ⟨FF, ha1, -, -⟩ := hCpy.arr
  obtain ⟨b, off, rfl⟩ := ha1.ptr h0
  have HC1 := Lib.hid hCpy
  clear hCpy ho1 ha1 hb1 hfr1 hfs1 HCALL HR0
  go_wp2_with fail
  refine (pick_any xs.length p g w1 HC1.out.rd (by omega) h0 (by omega)).mono ?_
  rintro e w2 ⟨d, rfl, hd, hR2, hC2⟩
  have HC2 := Lib.hid (HC1.out.step hR2 hC2)
  clear hR2 hC2 HC1
  have g1 : (0 : Int) ≤ (d : Int) := by omega
  have g2 : (d : Int) < (xs.length : Int) := by omega
  obtain ⟨kA, kcap, F2, n0, k0, z0, hb, hbl, hk1, hk2, hdx, hF2, hname, hctors⟩ := HC2.out.data (p := p) h0 HSM.out hd
  clear n0 z0 hb hbl hdx hF2 hname hctors
  cases q0 : ((xs[d].ctors.length : Int) == 0) with
  | true =>
    have HFin := Lib.hid (HC2.out.done (p := p) h0 HSM.out (by omega))
    clear HC2
    go_wp2
    go_ret
    exact HFin.out
  | false =>
    have hk0 : 0 < xs[d].ctors.length := by rw [beq_eq_false_iff_ne] at q0; omega
    have e0 : (0 : Int) < (xs[d].ctors.length : Int) := by omega
    go_wp2_with fail
    refine (pick_any 30 (p + 1) g w2 HC2.out.rd (by omega) (by omega) (by omega)).mono ?_
    rintro e w3 ⟨r, rfl, hr, hR3, hC3⟩
    have HC3 := Lib.hid (HC2.out.step hR3 hC3)
    clear hR3 hC3 HC2 k0 hk1 hk2
    cases c0q : ((r : Int) == 0) with
    | true =>
      go_wp2_with fail
      refine (of_lit [⟨#[73]⟩, ⟨#[]⟩, ⟨#[97]⟩, ⟨#[76, 76]⟩, ⟨#[90]⟩] (by decide) (by decide) (p + 1 + 1) g w3 HC3.out.rd (by omega)).mono ?_
      rintro e w4 ⟨s, hs, rfl, hR4, hC4⟩
      have hsz : s.size ≤ 1000 := by
        have hall : ∀ x ∈ ([⟨#[73]⟩, ⟨#[]⟩, ⟨#[97]⟩, ⟨#[76, 76]⟩, ⟨#[90]⟩] : List ByteArray), x.size ≤ 1000 := by decide
        exact hall s hs
      have HC4 := Lib.hid (HC3.out.step hR4 hC4)
      clear hR4 hC4 HC3 hs
      obtain ⟨kA, kcap, F2, n0, k0, z0, hb, hbl, hk1, hk2, hdx, hF2, hname, hctors⟩ := HC4.out.data (p := p) h0 HSM.out hd
      have f0 := z0 (off + d * 2)
      have HFin := Lib.hid (hname s hsz (by omega))
      clear k0 z0 hb hk1 hk2 hdx hF2 hname hctors HC4
      go_wp2
      go_ret
      exact HFin.out
    | false =>
      cases c1q : ((r : Int) == 1) with
      | true =>
        obtain ⟨kA, kcap, F2, n0, k0, z0, hb, hbl, hk1, hk2, hdx, hF2, hname, hctors⟩ := HC3.out.data (p := p) h0 HSM.out hd
        have f0 : (w3.alloc (.cells #[] 31)).frozen? ⟨b, off + d * 2 + 1, none⟩ = false := (World.frozen?_of_block (a := ⟨b, off + d * 2 + 1, none⟩) (Below.heap_alloc _ _ _ hbl)).trans (z0 _)
        have y0 : (w3.alloc (.cells #[] 31)).cell? ⟨b, off + d * 2 + 1, none⟩ = some (.slice kA xs[d].ctors.length kcap) := (World.cell?_alloc_lt _ _ _ hbl).trans k0
        have HFin := Lib.hid (hctors 31 (by omega))
        clear n0 k0 z0 hb hk1 hk2 hdx hF2 hname hctors HC3
        go_wp2
        go_ret
        exact HFin.out
      | false =>
        cases c2q : ((r : Int) == 2) with
        | true =>
          have hCd := HC3.out.drew
          clear HC3
          obtain ⟨b2, off2, cap2, aA, acap, kc, hbb, hbg, hb2g, hbl, hb2l, hz2, c0, c1, c2, hown, hrow, hal, H2, H4, H3⟩ := hCd.ctor (p := p) h0 HSM.out hd hk0
          have HH := Lib.hid H2
          have hR3 := Lib.hid hCd.rd
          have f3 := hz2 (off2)
          clear c1 c2 hown hrow hal H2 H4 H3 hCd hz2
          go_wp2_with fail
          refine wp_region_B (S := fun w' => w'.cell? ⟨b, off + d * 2 + 1, none⟩ = some (.slice (some ⟨b2, off2, none⟩) xs[d].ctors.length cap2)) (T := fun _ => True) (d := 10) (by kernel_rfl) ?_
          generalize w3.drew = wd at *
          have hS1 : wd.cell? ⟨b, off + d * 2 + 1, none⟩ = some (.slice (some ⟨b2, off2, none⟩) xs[d].ctors.length cap2) := kc
          have hT1 : True := trivial
          refine wpAnyB_take (i := 0) (v := ?_) rfl (by decide) (by kernel_rfl) (by kernel_rfl) (by kernel_rfl) (fun _ _ _ h => h) (Or.inl ⟨by rfl, ?hy0⟩) hS1 (fun _ => hT1) ?_
          case hy0 => (intro W hSw; (try dsimp only at hSw); go_simp; try with_reducible rfl)
          (try simp only [Act.put, List.setIfInBounds_toArray, List.set_cons_zero, List.set_cons_succ])
          refine wpAnyB_take (i := 1) (v := ?_) rfl (by decide) (by kernel_rfl) (by kernel_rfl) (by kernel_rfl) (fun _ _ _ h => h) (Or.inl ⟨by rfl, ?hy1⟩) hS1 (fun _ => hT1) ?_
          case hy1 => (intro W hSw; (try dsimp only at hSw); go_simp; try with_reducible rfl)
          (try simp only [Act.put, List.setIfInBounds_toArray, List.set_cons_zero, List.set_cons_succ])
          refine wpAnyB_take (i := 2) (v := ?_) rfl (by decide) (by kernel_rfl) (by kernel_rfl) (by kernel_rfl) (fun _ _ _ h => h) (Or.inl ⟨by rfl, ?hy2⟩) hS1 (fun _ => hT1) ?_
          case hy2 => (intro W hSw; (try dsimp only at hSw); go_simp; try with_reducible rfl)
          (try simp only [Act.put, List.setIfInBounds_toArray, List.set_cons_zero, List.set_cons_succ])
          refine wpAnyB_take (i := 3) (v := ?_) rfl (by decide) (by kernel_rfl) (by kernel_rfl) (by kernel_rfl) (fun _ _ _ h => h) (Or.inl ⟨by rfl, ?hy3⟩) hS1 (fun _ => hT1) ?_
          case hy3 => (intro W hSw; (try dsimp only at hSw); go_simp; try with_reducible rfl)
          (try simp only [Act.put, List.setIfInBounds_toArray, List.set_cons_zero, List.set_cons_succ])
          refine wpAnyB_take (i := 4) (v := ?_) rfl (by decide) (by kernel_rfl) (by kernel_rfl) (by kernel_rfl) (fun _ _ _ h => h) (Or.inl ⟨by rfl, ?hy4⟩) hS1 (fun _ => hT1) ?_
          case hy4 => (intro W hSw; (try dsimp only at hSw); go_simp; try with_reducible rfl)
          (try simp only [Act.put, List.setIfInBounds_toArray, List.set_cons_zero, List.set_cons_succ])
          refine wpAnyB_take (i := 5) (v := ?_) rfl (by decide) (by kernel_rfl) (by kernel_rfl) (by kernel_rfl) (fun _ _ _ h => h) (Or.inl ⟨by rfl, ?hy5⟩) hS1 (fun _ => hT1) ?_
          case hy5 => (intro W hSw; (try dsimp only at hSw); go_simp; try with_reducible rfl)
          (try simp only [Act.put, List.setIfInBounds_toArray, List.set_cons_zero, List.set_cons_succ])
          refine wpAnyB_ready (rs := [6]) (by kernel_rfl) (by simp) ?_
          refine AllReadyB.cons rfl (fun K hK => ?_) AllReadyB.nil
          go_simp
          refine hK.out _ _ ((World.cell?_alloc_lt _ _ _ hbl).trans kc) (fun _ => trivial) ?_
          clear hK K
          (try simp only [Act.put, List.setIfInBounds_toArray, List.set_cons_zero, List.set_cons_succ])
          refine wpAnyB_ready (rs := [7]) (by kernel_rfl) (by simp) ?_
          refine AllReadyB.cons rfl (fun K hK => ?_) AllReadyB.nil
          go_simp
          go_at_call 50
          refine (of_lit [⟨#[]⟩, ⟨#[110, 105, 108]⟩, ⟨#[84, 111, 111, 108, 111, 110, 103]⟩, ⟨#[88]⟩] (by decide) (by decide) (p + 1 + 1) g wd hR3.out (by omega)).mono ?_
          rintro e w4 ⟨s, hs, rfl, hR4, hC4⟩
          have hC5 := hC4
          have hsz : s.size ≤ 1000 := by
            have hall : ∀ x ∈ ([⟨#[]⟩, ⟨#[110, 105, 108]⟩, ⟨#[84, 111, 111, 108, 111, 110, 103]⟩, ⟨#[88]⟩] : List ByteArray), x.size ≤ 1000 := by decide
            exact hall s hs
          have hS4 : w4.cell? ⟨b, off + d * 2 + 1, none⟩ = some (.slice (some ⟨b2, off2, none⟩) xs[d].ctors.length cap2) := (hC5.cell hbl hbg).trans kc
          have x4 : w4.cell? ⟨b2, off2, none⟩ = some (.string xs[d].ctors[0].name) := (hC5.cell hb2l hb2g).trans c0
          have f4 : w4.frozen? ⟨b2, off2, none⟩ = false := (World.frozen?_of_block (a := ⟨b2, off2, none⟩) (hC5.block _ hb2l hb2g)).trans f3
          have HFin := Lib.hid (HH.out w4 _ s hR4 hC5 (by omega) hsz)
          dsimp only
          refine hK.out _ _ hS4 (fun _ => trivial) ?_
          clear hK K
          (try simp only [Act.put, List.setIfInBounds_toArray, List.set_cons_zero, List.set_cons_succ])
          refine wpAnyB_take (i := 8) (v := ?_) rfl (by decide) (by kernel_rfl) (by kernel_rfl) (by kernel_rfl) (fun _ _ _ h => h) (Or.inl ⟨by rfl, ?hy8⟩) hS4 (fun _ => hT1) ?_
          case hy8 => (intro W hSw; (try dsimp only at hSw); go_simp; try with_reducible rfl)
          (try simp only [Act.put, List.setIfInBounds_toArray, List.set_cons_zero, List.set_cons_succ])
          refine wpAnyB_take (i := 9) (v := ?_) rfl (by decide) (by kernel_rfl) (by kernel_rfl) (by kernel_rfl) (fun _ _ _ h => h) (Or.inl ⟨by rfl, ?hy9⟩) hS4 (fun _ => hT1) ?_
          case hy9 => (intro W hSw; (try dsimp only at hSw); go_simp; try with_reducible rfl)
          (try simp only [Act.put, List.setIfInBounds_toArray, List.set_cons_zero, List.set_cons_succ])
          refine wpAnyB_ready (rs := [10]) (by kernel_rfl) (by simp) ?_
          refine AllReadyB.cons rfl (fun K hK => ?_) AllReadyB.nil
          go_simp
          refine hK.out _ _ ((World.cell?_setCell_far _ _ _ _ (by show b2 ≠ b; exact fun e => hbb e.symm)).trans hS4) (fun _ => trivial) ?_
          clear hK K
          (try simp only [Act.put, List.setIfInBounds_toArray, List.set_cons_zero, List.set_cons_succ])
          refine wpAnyB_end (by kernel_rfl) ?_
          clear hS1 hT1 hS4 x4 f4 hC5 hC4 hR4 HH hR3 f3 kc c0
          go_wp2
          go_ret
          exact HFin.out
        | false =>
          cases c3q : ((r : Int) == 3) with
          | true =>
            have hCd := HC3.out.drew
            clear HC3
            obtain ⟨b2, off2, cap2, aA, acap, kc, hbb, hbg, hb2g, hbl, hb2l, hz2, c0, c1, c2, hown, hrow, hal, H2, H4, H3⟩ := hCd.ctor (p := p) h0 HSM.out hd hk0
            have HH := Lib.hid H3
            have HRD := Lib.hid hCd.rd
            have f3 := hz2 (off2 + 1)
            have HOWN := Lib.hid hown
            have HROW := Lib.hid hrow
            have hmx : xs[d].ctors[0].args.length + 1 ≤ maxLen := by unfold maxLen; omega
            have hby : (xs[d].ctors[0].args.length + 1) * 16 ≤ 140737488355328 := by omega
            have hgl3 : g < w3.drew.heap.size := hCd.rd.lt
            have hgs : w3.drew.heap.size ≠ g := by omega
            have hgs1 : w3.drew.heap.size + 1 ≠ g := by omega
            clear c0 c2 hown hrow H2 H4 H3 hCd hz2
            go_wp2_with fail
            refine wp_region_B (S := fun w' => w'.cell? ⟨b, off + d * 2 + 1, none⟩ = some (.slice (some ⟨b2, off2, none⟩) xs[d].ctors.length cap2)) (T := fun w' => w'.cell? ⟨b2, off2 + 1, none⟩ = some (.slice aA xs[d].ctors[0].args.length acap)) (d := 21) (by kernel_rfl) ?_
            generalize w3.drew = wd at *
            have hS1 : wd.cell? ⟨b, off + d * 2 + 1, none⟩ = some (.slice (some ⟨b2, off2, none⟩) xs[d].ctors.length cap2) := kc
            have hT1 : wd.cell? ⟨b2, off2 + 1, none⟩ = some (.slice aA xs[d].ctors[0].args.length acap) := c1
            refine wpAnyB_take (i := 0) (v := ?_) rfl (by decide) (by kernel_rfl) (by kernel_rfl) (by kernel_rfl) (fun _ _ _ h => h) (Or.inl ⟨by rfl, ?hy0⟩) hS1 (fun _ => hT1) ?_
            case hy0 => (intro W hSw; (try dsimp only at hSw); go_simp; try with_reducible rfl)
            (try simp only [Act.put, List.setIfInBounds_toArray, List.set_cons_zero, List.set_cons_succ])
            refine wpAnyB_take (i := 1) (v := ?_) rfl (by decide) (by kernel_rfl) (by kernel_rfl) (by kernel_rfl) (fun _ _ _ h => h) (Or.inl ⟨by rfl, ?hy1⟩) hS1 (fun _ => hT1) ?_
            case hy1 => (intro W hSw; (try dsimp only at hSw); go_simp; try with_reducible rfl)
            (try simp only [Act.put, List.setIfInBounds_toArray, List.set_cons_zero, List.set_cons_succ])
            refine wpAnyB_take (i := 2) (v := ?_) rfl (by decide) (by kernel_rfl) (by kernel_rfl) (by kernel_rfl) (fun _ _ _ h => h) (Or.inl ⟨by rfl, ?hy2⟩) hS1 (fun _ => hT1) ?_
            case hy2 => (intro W hSw; (try dsimp only at hSw); go_simp; try with_reducible rfl)
            (try simp only [Act.put, List.setIfInBounds_toArray, List.set_cons_zero, List.set_cons_succ])
            refine wpAnyB_take (i := 3) (v := ?_) rfl (by decide) (by kernel_rfl) (by kernel_rfl) (by kernel_rfl) (fun _ _ _ h => h) (Or.inl ⟨by rfl, ?hy3⟩) hS1 (fun _ => hT1) ?_
            case hy3 => (intro W hSw; (try dsimp only at hSw); go_simp; try with_reducible rfl)
            (try simp only [Act.put, List.setIfInBounds_toArray, List.set_cons_zero, List.set_cons_succ])
            refine wpAnyB_take (i := 4) (v := ?_) rfl (by decide) (by kernel_rfl) (by kernel_rfl) (by kernel_rfl) (fun _ _ _ h => h) (Or.inl ⟨by rfl, ?hy4⟩) hS1 (fun _ => hT1) ?_
            case hy4 => (intro W hSw; (try dsimp only at hSw); go_simp; try with_reducible rfl)
            (try simp only [Act.put, List.setIfInBounds_toArray, List.set_cons_zero, List.set_cons_succ])
            refine wpAnyB_take (i := 5) (v := ?_) rfl (by decide) (by kernel_rfl) (by kernel_rfl) (by kernel_rfl) (fun _ _ _ h => h) (Or.inl ⟨by rfl, ?hy5⟩) hS1 (fun _ => hT1) ?_
            case hy5 => (intro W hSw; (try dsimp only at hSw); go_simp; try with_reducible rfl)
            (try simp only [Act.put, List.setIfInBounds_toArray, List.set_cons_zero, List.set_cons_succ])
            refine wpAnyB_take (i := 6) (v := ?_) rfl (by decide) (by kernel_rfl) (by kernel_rfl) (by kernel_rfl) (fun _ _ _ h => h) (Or.inl ⟨by rfl, ?hy6⟩) hS1 (fun _ => hT1) ?_
            case hy6 => (intro W hSw; (try dsimp only at hSw); go_simp; try with_reducible rfl)
            (try simp only [Act.put, List.setIfInBounds_toArray, List.set_cons_zero, List.set_cons_succ])
            refine wpAnyB_take (i := 7) (v := ?_) rfl (by decide) (by kernel_rfl) (by kernel_rfl) (by kernel_rfl) (fun _ _ _ h => h) (Or.inl ⟨by rfl, ?hy7⟩) hS1 (fun _ => hT1) ?_
            case hy7 => (intro W hSw; (try dsimp only at hSw); go_simp; try with_reducible rfl)
            (try simp only [Act.put, List.setIfInBounds_toArray, List.set_cons_zero, List.set_cons_succ])
            refine wpAnyB_take (i := 8) (v := ?_) rfl (by decide) (by kernel_rfl) (by kernel_rfl) (by kernel_rfl) (fun _ _ _ h => h) (Or.inl ⟨by rfl, ?hy8⟩) hS1 (fun _ => hT1) ?_
            case hy8 => (intro W hSw; (try dsimp only at hSw); go_simp; try with_reducible rfl)
            (try simp only [Act.put, List.setIfInBounds_toArray, List.set_cons_zero, List.set_cons_succ])
            refine wpAnyB_take (i := 9) (v := ?_) rfl (by decide) (by kernel_rfl) (by kernel_rfl) (by kernel_rfl) (fun _ _ _ h => h) (Or.inl ⟨by rfl, ?hy9⟩) hS1 (fun _ => hT1) ?_
            case hy9 => (intro W hSw; (try dsimp only at hSw); go_simp; try with_reducible rfl)
            (try simp only [Act.put, List.setIfInBounds_toArray, List.set_cons_zero, List.set_cons_succ])
            refine wpAnyB_take (i := 10) (v := ?_) rfl (by decide) (by kernel_rfl) (by kernel_rfl) (by kernel_rfl) (fun _ _ _ h => h) (Or.inl ⟨by rfl, ?hy10⟩) hS1 (fun _ => hT1) ?_
            case hy10 => (intro W hSw; (try dsimp only at hSw); go_simp; try with_reducible rfl)
            (try simp only [Act.put, List.setIfInBounds_toArray, List.set_cons_zero, List.set_cons_succ])
            refine wpAnyB_take (i := 11) (v := ?_) rfl (by decide) (by kernel_rfl) (by kernel_rfl) (by kernel_rfl) (fun _ _ _ h => h) (Or.inl ⟨by rfl, ?hy11⟩) hS1 (fun _ => hT1) ?_
            case hy11 => (intro W hSw; (try dsimp only at hSw); go_simp; try with_reducible rfl)
            (try simp only [Act.put, List.setIfInBounds_toArray, List.set_cons_zero, List.set_cons_succ])
            refine wpAnyB_takeB (i := 12) (v := ?_) rfl (by decide) rfl (by kernel_rfl) (by kernel_rfl) (by kernel_rfl) (by kernel_rfl) (fun _ _ _ h => h) (Or.inl ⟨by rfl, ?hy12⟩) (by rfl) hS1 hT1 ?_
            case hy12 => (intro W hSw; (try dsimp only at hSw); go_simp; try with_reducible rfl)
            (try simp only [Act.put, List.setIfInBounds_toArray, List.set_cons_zero, List.set_cons_succ])
            refine wpAnyB_take (i := 13) (v := ?_) rfl (by decide) (by kernel_rfl) (by kernel_rfl) (by kernel_rfl) (fun _ _ _ h => h) (Or.inl ⟨by rfl, ?hy13⟩) hS1 (fun _ => hT1) ?_
            case hy13 => (intro W hSw; (try dsimp only at hSw); go_simp; try with_reducible rfl)
            (try simp only [Act.put, List.setIfInBounds_toArray, List.set_cons_zero, List.set_cons_succ])
            refine wpAnyB_take (i := 16) (v := ?_) rfl (by decide) (by kernel_rfl) (by kernel_rfl) (by kernel_rfl) (fun _ _ _ h => h) (Or.inl ⟨by rfl, ?hy16⟩) hS1 (fun _ => hT1) ?_
            case hy16 => (intro W hSw; (try dsimp only at hSw); go_simp; try with_reducible rfl)
            (try simp only [Act.put, List.setIfInBounds_toArray, List.set_cons_zero, List.set_cons_succ])
            refine wpAnyB_ready (rs := [14, 17]) (by kernel_rfl) (by simp) ?_
            refine AllReadyB.cons rfl (fun K hK => ?_) (AllReadyB.cons rfl (fun K hK => ?_) AllReadyB.nil)
            · go_simp
              refine hK.out _ _ (((Chg.refl [g] wd).alloc _).cell hbl hbg |>.trans kc) (fun _ => ((Chg.refl [g] wd).alloc _).cell hb2l hb2g |>.trans c1) ?_
              clear hK K
              (try simp only [Act.put, List.setIfInBounds_toArray, List.set_cons_zero, List.set_cons_succ])
              refine wpAnyB_ready (rs := [15, 17]) (by kernel_rfl) (by simp) ?_
              refine AllReadyB.cons rfl (fun K hK => ?_) (AllReadyB.cons rfl (fun K hK => ?_) AllReadyB.nil)
              · go_simp
                go_at_call 39
                refine (num_at (LitN.new wd [9, -2, 0, -1] (by decide)) (by decide) (by decide) (p + 1 + 1) g (HRD.out.below ((Below.refl _ _).alloc (Nat.le_refl _) _)) (by omega) hgs).mono ?_
                rintro e w5 ⟨x, rfl, hRw5, hCw5⟩
                have hC5 : Chg [g] wd w5 := ((Chg.refl [g] wd).alloc _).trans hCw5
                dsimp only
                refine hK.out _ _ (((hC5).cell hbl hbg).trans kc) (fun _ => ((hC5).cell hb2l hb2g).trans c1) ?_
                clear hK K
                (try simp only [Act.put, List.setIfInBounds_toArray, List.set_cons_zero, List.set_cons_succ])
                refine wpAnyB_ready (rs := [17]) (by kernel_rfl) (by simp) ?_
                refine AllReadyB.cons rfl (fun K hK => ?_) AllReadyB.nil
                go_simp
                refine hK.out _ _ (((hC5).alloc _).cell hbl hbg |>.trans kc) (fun _ => ((hC5).alloc _).cell hb2l hb2g |>.trans c1) ?_
                clear hK K
                (try simp only [Act.put, List.setIfInBounds_toArray, List.set_cons_zero, List.set_cons_succ])
                refine wpAnyB_ready (rs := [18]) (by kernel_rfl) (by simp) ?_
                refine AllReadyB.cons rfl (fun K hK => ?_) AllReadyB.nil
                go_simp
                go_at_call 39
                refine (num_at (LitN.new w5 [0, 4, -1, -2] (by decide)) (by decide) (by decide) (p + 1 + 1 + 1) g (hRw5.below ((Below.refl _ _).alloc (Nat.le_refl _) _)) (by omega) (by have := hC5.size; omega)).mono ?_
                rintro e w6 ⟨y, rfl, hRw6, hCw6⟩
                have hC6 : Chg [g] wd w6 := (hC5.alloc _).trans hCw6
                have hSE : w6.cell? ⟨b, off + d * 2 + 1, none⟩ = some (.slice (some ⟨b2, off2, none⟩) xs[d].ctors.length cap2) := ((hC6).cell hbl hbg).trans kc
                have hTE : w6.cell? ⟨b2, off2 + 1, none⟩ = some (.slice aA xs[d].ctors[0].args.length acap) := ((hC6).cell hb2l hb2g).trans c1
                have HOE : Hid (Own w6 0 33 2 TyR xs[d].ctors[0].args (.slice aA xs[d].ctors[0].args.length acap) []) := HOWN.out.mono0 (w' := w6) (fun x cs G (h : TyR wd x cs G) => (h : TyR w6 x cs G)) ((hC6).kept (fun x hx => (HROW.out x hx).2.2.2) (fun x hx => (HROW.out x hx).1))
                have hzE : wd.heap.size ≤ w6.heap.size := (hC6).size
                have hfE : w6.frozen? ⟨b2, off2 + 1, none⟩ = false := (World.frozen?_of_block (a := ⟨b2, off2 + 1, none⟩) ((hC6).block _ hb2l hb2g)).trans f3
                have hFinE := HH.out w6 (p + 1 + 1 + 1 + 1) ⟨x, y⟩
                have HFE := Lib.hid (fun g' c' w3' o => hFinE g' c' w3' o hRw6 (hC6) (by omega))
                clear hFinE
                dsimp only
                refine hK.out _ _ hSE (fun _ => hTE) ?_
                clear hK K
                (try simp only [Act.put, List.setIfInBounds_toArray, List.set_cons_zero, List.set_cons_succ])
                refine wpAnyB_take (i := 19) (v := ?_) rfl (by decide) (by kernel_rfl) (by kernel_rfl) (by kernel_rfl) (fun _ _ _ h => h) (Or.inl ⟨by rfl, ?hy19⟩) hSE (fun _ => hTE) ?_
                case hy19 => (intro W hSw; (try dsimp only at hSw); go_simp; try with_reducible rfl)
                (try simp only [Act.put, List.setIfInBounds_toArray, List.set_cons_zero, List.set_cons_succ])
                refine wpAnyB_ready (rs := [20]) (by kernel_rfl) (by simp) ?_
                refine AllReadyB.cons rfl (fun K hK => ?_) AllReadyB.nil
                go_simp
                refine hK.out _ _ ((World.cell?_alloc_lt _ _ _ (Nat.lt_of_lt_of_le hbl hzE)).trans hSE) (fun _ => (World.cell?_alloc_lt _ _ _ (Nat.lt_of_lt_of_le hb2l hzE)).trans hTE) ?_
                clear hK K
                (try simp only [Act.put, List.setIfInBounds_toArray, List.set_cons_zero, List.set_cons_succ])
                refine wpAnyB_ready (rs := [21]) (by kernel_rfl) (by simp) ?_
                refine AllReadyB.cons rfl (fun K hK => ?_) AllReadyB.nil
                refine step_push1 (P := Try.prog) rfl _ _ 29 rfl j0 _ 16 Try.underlying29 HJ.out HJ0.out HJ1.out HJ2.out rfl (by decide) TyR_len' TyR_mono' (by rfl) HOE.out ⟨x, y⟩ 33 [.int .i64 x, .int .i64 y] [] _ (by rfl) rfl (by simp [Value.oneCell']) ⟨rfl, rfl⟩ (Under.nil _) (fun _ _ h => by cases h) hmx hby (Nat.zero_le _) ?_
                intro g' cp w7 hown7 hgr7 hat7
                have nb : some b ≠ (Value.slice aA xs[d].ctors[0].args.length acap).ownBlock := fun e => (HROW.out b (mem_rowOf.2 e.symm)).2.1 rfl
                have nb2 : some b2 ≠ (Value.slice aA xs[d].ctors[0].args.length acap).ownBlock := fun e => (HROW.out b2 (mem_rowOf.2 e.symm)).2.2.1 rfl
                have l7 : w6.heap.size ≤ (w6.alloc (.cells #[.int .i64 x, .int .i64 y] 33)).heap.size := by rw [World.size_alloc]; exact Nat.le_succ _
                have l8 : b < w6.heap.size := Nat.lt_of_lt_of_le hbl hzE
                have l9 : b2 < w6.heap.size := Nat.lt_of_lt_of_le hb2l hzE
                have s7 : w7.cell? ⟨b, off + d * 2 + 1, none⟩ = some (.slice (some ⟨b2, off2, none⟩) xs[d].ctors.length cap2) := (World.grownBy.cell_far hgr7 ⟨b, off + d * 2 + 1, none⟩ (Nat.lt_of_lt_of_le l8 l7) nb).trans ((World.cell?_alloc_lt _ _ _ l8).trans hSE)
                have t7 : w7.cell? ⟨b2, off2 + 1, none⟩ = some (.slice aA xs[d].ctors[0].args.length acap) := (World.grownBy.cell_far hgr7 ⟨b2, off2 + 1, none⟩ (Nat.lt_of_lt_of_le l9 l7) nb2).trans ((World.cell?_alloc_lt _ _ _ l9).trans hTE)
                have f7 : w7.frozen? ⟨b2, off2 + 1, none⟩ = false := (World.grownBy.frozen_far hgr7 ⟨b2, off2 + 1, none⟩ (Nat.lt_of_lt_of_le l9 l7) nb2).trans (Eq.trans (World.frozen?_of_block (Below.heap_alloc _ _ _ l9)) hfE)
                have HFin := Lib.hid (HFE.out g' cp w7 _ hown7 hgr7 hat7)
                refine hK.out _ _ s7 (fun _ => t7) ?_
                clear hK K
                (try simp only [Act.put, List.setIfInBounds_toArray, List.set_cons_zero, List.set_cons_succ])
                refine wpAnyB_take (i := 22) (v := ?_) rfl (by decide) (by kernel_rfl) (by kernel_rfl) (by kernel_rfl) (fun _ _ _ h => h) (Or.inl ⟨by rfl, ?hy22⟩) s7 (fun _ => t7) ?_
                case hy22 => (intro W hSw; (try dsimp only at hSw); go_simp; try with_reducible rfl)
                (try simp only [Act.put, List.setIfInBounds_toArray, List.set_cons_zero, List.set_cons_succ])
                refine wpAnyB_take (i := 23) (v := ?_) rfl (by decide) (by kernel_rfl) (by kernel_rfl) (by kernel_rfl) (fun _ _ _ h => h) (Or.inl ⟨by rfl, ?hy23⟩) s7 (fun _ => t7) ?_
                case hy23 => (intro W hSw; (try dsimp only at hSw); go_simp; try with_reducible rfl)
                (try simp only [Act.put, List.setIfInBounds_toArray, List.set_cons_zero, List.set_cons_succ])
                refine wpAnyB_ready (rs := [24]) (by kernel_rfl) (by simp) ?_
                refine AllReadyB.cons rfl (fun K hK => ?_) AllReadyB.nil
                go_simp
                refine hK.out _ _ ((World.cell?_setCell_far _ _ _ _ (by show b2 ≠ b; exact fun e => hbb e.symm)).trans s7) (fun h => by cases h) ?_
                clear hK K
                (try simp only [Act.put, List.setIfInBounds_toArray, List.set_cons_zero, List.set_cons_succ])
                refine wpAnyB_end (by kernel_rfl) ?_
                clear hS1 hT1 hSE hTE HOE hzE hfE HFE nb nb2 l7 l8 l9 s7 t7 f7 hown7 hgr7 hat7 HH HOWN HROW f3 kc c1 hmx hby
                go_wp2
                go_ret
                exact HFin.out
              · go_simp
                refine hK.out _ _ ((((Chg.refl [g] wd).alloc _).alloc _).cell hbl hbg |>.trans kc) (fun _ => (((Chg.refl [g] wd).alloc _).alloc _).cell hb2l hb2g |>.trans c1) ?_
                clear hK K
                (try simp only [Act.put, List.setIfInBounds_toArray, List.set_cons_zero, List.set_cons_succ])
                refine wpAnyB_ready (rs := [15]) (by kernel_rfl) (by simp) ?_
                refine AllReadyB.cons rfl (fun K hK => ?_) AllReadyB.nil
                go_simp
                go_at_call 39
                refine (num_at ((LitN.new wd [9, -2, 0, -1] (by decide)).alloc _) (by decide) (by decide) (p + 1 + 1) g ((HRD.out.below ((Below.refl _ _).alloc (Nat.le_refl _) _)).below ((Below.refl _ _).alloc (Nat.le_refl _) _)) (by omega) hgs).mono ?_
                rintro e w5 ⟨x, rfl, hRw5, hCw5⟩
                have hC5 : Chg [g] wd w5 := (((Chg.refl [g] wd).alloc _).alloc _).trans hCw5
                have hLB : LitN w5 (wd.heap.size + 1) [0, 4, -1, -2] := (LitN.new2 wd _ [0, 4, -1, -2] (by decide)).chg hCw5 (by rw [List.mem_singleton]; exact hgs1)
                dsimp only
                refine hK.out _ _ (((hC5).cell hbl hbg).trans kc) (fun _ => ((hC5).cell hb2l hb2g).trans c1) ?_
                clear hK K
                (try simp only [Act.put, List.setIfInBounds_toArray, List.set_cons_zero, List.set_cons_succ])
                refine wpAnyB_ready (rs := [18]) (by kernel_rfl) (by simp) ?_
                refine AllReadyB.cons rfl (fun K hK => ?_) AllReadyB.nil
                go_simp
                go_at_call 39
                refine (num_at hLB (by decide) (by decide) (p + 1 + 1 + 1) g hRw5 (by omega) hgs1).mono ?_
                rintro e w6 ⟨y, rfl, hRw6, hCw6⟩
                have hC6 : Chg [g] wd w6 := hC5.trans hCw6
                have hSE : w6.cell? ⟨b, off + d * 2 + 1, none⟩ = some (.slice (some ⟨b2, off2, none⟩) xs[d].ctors.length cap2) := ((hC6).cell hbl hbg).trans kc
                have hTE : w6.cell? ⟨b2, off2 + 1, none⟩ = some (.slice aA xs[d].ctors[0].args.length acap) := ((hC6).cell hb2l hb2g).trans c1
                have HOE : Hid (Own w6 0 33 2 TyR xs[d].ctors[0].args (.slice aA xs[d].ctors[0].args.length acap) []) := HOWN.out.mono0 (w' := w6) (fun x cs G (h : TyR wd x cs G) => (h : TyR w6 x cs G)) ((hC6).kept (fun x hx => (HROW.out x hx).2.2.2) (fun x hx => (HROW.out x hx).1))
                have hzE : wd.heap.size ≤ w6.heap.size := (hC6).size
                have hfE : w6.frozen? ⟨b2, off2 + 1, none⟩ = false := (World.frozen?_of_block (a := ⟨b2, off2 + 1, none⟩) ((hC6).block _ hb2l hb2g)).trans f3
                have hFinE := HH.out w6 (p + 1 + 1 + 1 + 1) ⟨x, y⟩
                have HFE := Lib.hid (fun g' c' w3' o => hFinE g' c' w3' o hRw6 (hC6) (by omega))
                clear hFinE
                dsimp only
                refine hK.out _ _ hSE (fun _ => hTE) ?_
                clear hK K
                (try simp only [Act.put, List.setIfInBounds_toArray, List.set_cons_zero, List.set_cons_succ])
                refine wpAnyB_take (i := 19) (v := ?_) rfl (by decide) (by kernel_rfl) (by kernel_rfl) (by kernel_rfl) (fun _ _ _ h => h) (Or.inl ⟨by rfl, ?hy19⟩) hSE (fun _ => hTE) ?_
                case hy19 => (intro W hSw; (try dsimp only at hSw); go_simp; try with_reducible rfl)
                (try simp only [Act.put, List.setIfInBounds_toArray, List.set_cons_zero, List.set_cons_succ])
                refine wpAnyB_ready (rs := [20]) (by kernel_rfl) (by simp) ?_
                refine AllReadyB.cons rfl (fun K hK => ?_) AllReadyB.nil
                go_simp
                refine hK.out _ _ ((World.cell?_alloc_lt _ _ _ (Nat.lt_of_lt_of_le hbl hzE)).trans hSE) (fun _ => (World.cell?_alloc_lt _ _ _ (Nat.lt_of_lt_of_le hb2l hzE)).trans hTE) ?_
                clear hK K
                (try simp only [Act.put, List.setIfInBounds_toArray, List.set_cons_zero, List.set_cons_succ])
                refine wpAnyB_ready (rs := [21]) (by kernel_rfl) (by simp) ?_
                refine AllReadyB.cons rfl (fun K hK => ?_) AllReadyB.nil
                refine step_push1 (P := Try.prog) rfl _ _ 29 rfl j0 _ 16 Try.underlying29 HJ.out HJ0.out HJ1.out HJ2.out rfl (by decide) TyR_len' TyR_mono' (by rfl) HOE.out ⟨x, y⟩ 33 [.int .i64 x, .int .i64 y] [] _ (by rfl) rfl (by simp [Value.oneCell']) ⟨rfl, rfl⟩ (Under.nil _) (fun _ _ h => by cases h) hmx hby (Nat.zero_le _) ?_
                intro g' cp w7 hown7 hgr7 hat7
                have nb : some b ≠ (Value.slice aA xs[d].ctors[0].args.length acap).ownBlock := fun e => (HROW.out b (mem_rowOf.2 e.symm)).2.1 rfl
                have nb2 : some b2 ≠ (Value.slice aA xs[d].ctors[0].args.length acap).ownBlock := fun e => (HROW.out b2 (mem_rowOf.2 e.symm)).2.2.1 rfl
                have l7 : w6.heap.size ≤ (w6.alloc (.cells #[.int .i64 x, .int .i64 y] 33)).heap.size := by rw [World.size_alloc]; exact Nat.le_succ _
                have l8 : b < w6.heap.size := Nat.lt_of_lt_of_le hbl hzE
                have l9 : b2 < w6.heap.size := Nat.lt_of_lt_of_le hb2l hzE
                have s7 : w7.cell? ⟨b, off + d * 2 + 1, none⟩ = some (.slice (some ⟨b2, off2, none⟩) xs[d].ctors.length cap2) := (World.grownBy.cell_far hgr7 ⟨b, off + d * 2 + 1, none⟩ (Nat.lt_of_lt_of_le l8 l7) nb).trans ((World.cell?_alloc_lt _ _ _ l8).trans hSE)
                have t7 : w7.cell? ⟨b2, off2 + 1, none⟩ = some (.slice aA xs[d].ctors[0].args.length acap) := (World.grownBy.cell_far hgr7 ⟨b2, off2 + 1, none⟩ (Nat.lt_of_lt_of_le l9 l7) nb2).trans ((World.cell?_alloc_lt _ _ _ l9).trans hTE)
                have f7 : w7.frozen? ⟨b2, off2 + 1, none⟩ = false := (World.grownBy.frozen_far hgr7 ⟨b2, off2 + 1, none⟩ (Nat.lt_of_lt_of_le l9 l7) nb2).trans (Eq.trans (World.frozen?_of_block (Below.heap_alloc _ _ _ l9)) hfE)
                have HFin := Lib.hid (HFE.out g' cp w7 _ hown7 hgr7 hat7)
                refine hK.out _ _ s7 (fun _ => t7) ?_
                clear hK K
                (try simp only [Act.put, List.setIfInBounds_toArray, List.set_cons_zero, List.set_cons_succ])
                refine wpAnyB_take (i := 22) (v := ?_) rfl (by decide) (by kernel_rfl) (by kernel_rfl) (by kernel_rfl) (fun _ _ _ h => h) (Or.inl ⟨by rfl, ?hy22⟩) s7 (fun _ => t7) ?_
                case hy22 => (intro W hSw; (try dsimp only at hSw); go_simp; try with_reducible rfl)
                (try simp only [Act.put, List.setIfInBounds_toArray, List.set_cons_zero, List.set_cons_succ])
                refine wpAnyB_take (i := 23) (v := ?_) rfl (by decide) (by kernel_rfl) (by kernel_rfl) (by kernel_rfl) (fun _ _ _ h => h) (Or.inl ⟨by rfl, ?hy23⟩) s7 (fun _ => t7) ?_
                case hy23 => (intro W hSw; (try dsimp only at hSw); go_simp; try with_reducible rfl)
                (try simp only [Act.put, List.setIfInBounds_toArray, List.set_cons_zero, List.set_cons_succ])
                refine wpAnyB_ready (rs := [24]) (by kernel_rfl) (by simp) ?_
                refine AllReadyB.cons rfl (fun K hK => ?_) AllReadyB.nil
                go_simp
                refine hK.out _ _ ((World.cell?_setCell_far _ _ _ _ (by show b2 ≠ b; exact fun e => hbb e.symm)).trans s7) (fun h => by cases h) ?_
                clear hK K
                (try simp only [Act.put, List.setIfInBounds_toArray, List.set_cons_zero, List.set_cons_succ])
                refine wpAnyB_end (by kernel_rfl) ?_
                clear hS1 hT1 hSE hTE HOE hzE hfE HFE nb nb2 l7 l8 l9 s7 t7 f7 hown7 hgr7 hat7 HH HOWN HROW f3 kc c1 hmx hby
                go_wp2
                go_ret
                exact HFin.out
            · go_simp
              refine hK.out _ _ (((Chg.refl [g] wd).alloc _).cell hbl hbg |>.trans kc) (fun _ => ((Chg.refl [g] wd).alloc _).cell hb2l hb2g |>.trans c1) ?_
              clear hK K
              (try simp only [Act.put, List.setIfInBounds_toArray, List.set_cons_zero, List.set_cons_succ])
              refine wpAnyB_ready (rs := [14]) (by kernel_rfl) (by simp) ?_
              refine AllReadyB.cons rfl (fun K hK => ?_) AllReadyB.nil
              go_simp
              refine hK.out _ _ ((((Chg.refl [g] wd).alloc _).alloc _).cell hbl hbg |>.trans kc) (fun _ => (((Chg.refl [g] wd).alloc _).alloc _).cell hb2l hb2g |>.trans c1) ?_
              clear hK K
              (try simp only [Act.put, List.setIfInBounds_toArray, List.set_cons_zero, List.set_cons_succ])
              refine wpAnyB_ready (rs := [15]) (by kernel_rfl) (by simp) ?_
              refine AllReadyB.cons rfl (fun K hK => ?_) AllReadyB.nil
              go_simp
              go_at_call 39
              refine (num_at (LitN.new2 wd _ [9, -2, 0, -1] (by decide)) (by decide) (by decide) (p + 1 + 1) g ((HRD.out.below ((Below.refl _ _).alloc (Nat.le_refl _) _)).below ((Below.refl _ _).alloc (Nat.le_refl _) _)) (by omega) hgs1).mono ?_
              rintro e w5 ⟨x, rfl, hRw5, hCw5⟩
              have hC5 : Chg [g] wd w5 := (((Chg.refl [g] wd).alloc _).alloc _).trans hCw5
              have hLB : LitN w5 wd.heap.size [0, 4, -1, -2] := ((LitN.new wd [0, 4, -1, -2] (by decide)).alloc _).chg hCw5 (by rw [List.mem_singleton]; exact hgs)
              dsimp only
              refine hK.out _ _ (((hC5).cell hbl hbg).trans kc) (fun _ => ((hC5).cell hb2l hb2g).trans c1) ?_
              clear hK K
              (try simp only [Act.put, List.setIfInBounds_toArray, List.set_cons_zero, List.set_cons_succ])
              refine wpAnyB_ready (rs := [18]) (by kernel_rfl) (by simp) ?_
              refine AllReadyB.cons rfl (fun K hK => ?_) AllReadyB.nil
              go_simp
              go_at_call 39
              refine (num_at hLB (by decide) (by decide) (p + 1 + 1 + 1) g hRw5 (by omega) hgs).mono ?_
              rintro e w6 ⟨y, rfl, hRw6, hCw6⟩
              have hC6 : Chg [g] wd w6 := hC5.trans hCw6
              have hSE : w6.cell? ⟨b, off + d * 2 + 1, none⟩ = some (.slice (some ⟨b2, off2, none⟩) xs[d].ctors.length cap2) := ((hC6).cell hbl hbg).trans kc
              have hTE : w6.cell? ⟨b2, off2 + 1, none⟩ = some (.slice aA xs[d].ctors[0].args.length acap) := ((hC6).cell hb2l hb2g).trans c1
              have HOE : Hid (Own w6 0 33 2 TyR xs[d].ctors[0].args (.slice aA xs[d].ctors[0].args.length acap) []) := HOWN.out.mono0 (w' := w6) (fun x cs G (h : TyR wd x cs G) => (h : TyR w6 x cs G)) ((hC6).kept (fun x hx => (HROW.out x hx).2.2.2) (fun x hx => (HROW.out x hx).1))
              have hzE : wd.heap.size ≤ w6.heap.size := (hC6).size
              have hfE : w6.frozen? ⟨b2, off2 + 1, none⟩ = false := (World.frozen?_of_block (a := ⟨b2, off2 + 1, none⟩) ((hC6).block _ hb2l hb2g)).trans f3
              have hFinE := HH.out w6 (p + 1 + 1 + 1 + 1) ⟨x, y⟩
              have HFE := Lib.hid (fun g' c' w3' o => hFinE g' c' w3' o hRw6 (hC6) (by omega))
              clear hFinE
              dsimp only
              refine hK.out _ _ hSE (fun _ => hTE) ?_
              clear hK K
              (try simp only [Act.put, List.setIfInBounds_toArray, List.set_cons_zero, List.set_cons_succ])
              refine wpAnyB_take (i := 19) (v := ?_) rfl (by decide) (by kernel_rfl) (by kernel_rfl) (by kernel_rfl) (fun _ _ _ h => h) (Or.inl ⟨by rfl, ?hy19⟩) hSE (fun _ => hTE) ?_
              case hy19 => (intro W hSw; (try dsimp only at hSw); go_simp; try with_reducible rfl)
              (try simp only [Act.put, List.setIfInBounds_toArray, List.set_cons_zero, List.set_cons_succ])
              refine wpAnyB_ready (rs := [20]) (by kernel_rfl) (by simp) ?_
              refine AllReadyB.cons rfl (fun K hK => ?_) AllReadyB.nil
              go_simp
              refine hK.out _ _ ((World.cell?_alloc_lt _ _ _ (Nat.lt_of_lt_of_le hbl hzE)).trans hSE) (fun _ => (World.cell?_alloc_lt _ _ _ (Nat.lt_of_lt_of_le hb2l hzE)).trans hTE) ?_
              clear hK K
              (try simp only [Act.put, List.setIfInBounds_toArray, List.set_cons_zero, List.set_cons_succ])
              refine wpAnyB_ready (rs := [21]) (by kernel_rfl) (by simp) ?_
              refine AllReadyB.cons rfl (fun K hK => ?_) AllReadyB.nil
              refine step_push1 (P := Try.prog) rfl _ _ 29 rfl j0 _ 16 Try.underlying29 HJ.out HJ0.out HJ1.out HJ2.out rfl (by decide) TyR_len' TyR_mono' (by rfl) HOE.out ⟨x, y⟩ 33 [.int .i64 x, .int .i64 y] [] _ (by rfl) rfl (by simp [Value.oneCell']) ⟨rfl, rfl⟩ (Under.nil _) (fun _ _ h => by cases h) hmx hby (Nat.zero_le _) ?_
              intro g' cp w7 hown7 hgr7 hat7
              have nb : some b ≠ (Value.slice aA xs[d].ctors[0].args.length acap).ownBlock := fun e => (HROW.out b (mem_rowOf.2 e.symm)).2.1 rfl
              have nb2 : some b2 ≠ (Value.slice aA xs[d].ctors[0].args.length acap).ownBlock := fun e => (HROW.out b2 (mem_rowOf.2 e.symm)).2.2.1 rfl
              have l7 : w6.heap.size ≤ (w6.alloc (.cells #[.int .i64 x, .int .i64 y] 33)).heap.size := by rw [World.size_alloc]; exact Nat.le_succ _
              have l8 : b < w6.heap.size := Nat.lt_of_lt_of_le hbl hzE
              have l9 : b2 < w6.heap.size := Nat.lt_of_lt_of_le hb2l hzE
              have s7 : w7.cell? ⟨b, off + d * 2 + 1, none⟩ = some (.slice (some ⟨b2, off2, none⟩) xs[d].ctors.length cap2) := (World.grownBy.cell_far hgr7 ⟨b, off + d * 2 + 1, none⟩ (Nat.lt_of_lt_of_le l8 l7) nb).trans ((World.cell?_alloc_lt _ _ _ l8).trans hSE)
              have t7 : w7.cell? ⟨b2, off2 + 1, none⟩ = some (.slice aA xs[d].ctors[0].args.length acap) := (World.grownBy.cell_far hgr7 ⟨b2, off2 + 1, none⟩ (Nat.lt_of_lt_of_le l9 l7) nb2).trans ((World.cell?_alloc_lt _ _ _ l9).trans hTE)
              have f7 : w7.frozen? ⟨b2, off2 + 1, none⟩ = false := (World.grownBy.frozen_far hgr7 ⟨b2, off2 + 1, none⟩ (Nat.lt_of_lt_of_le l9 l7) nb2).trans (Eq.trans (World.frozen?_of_block (Below.heap_alloc _ _ _ l9)) hfE)
              have HFin := Lib.hid (HFE.out g' cp w7 _ hown7 hgr7 hat7)
              refine hK.out _ _ s7 (fun _ => t7) ?_
              clear hK K
              (try simp only [Act.put, List.setIfInBounds_toArray, List.set_cons_zero, List.set_cons_succ])
              refine wpAnyB_take (i := 22) (v := ?_) rfl (by decide) (by kernel_rfl) (by kernel_rfl) (by kernel_rfl) (fun _ _ _ h => h) (Or.inl ⟨by rfl, ?hy22⟩) s7 (fun _ => t7) ?_
              case hy22 => (intro W hSw; (try dsimp only at hSw); go_simp; try with_reducible rfl)
              (try simp only [Act.put, List.setIfInBounds_toArray, List.set_cons_zero, List.set_cons_succ])
              refine wpAnyB_take (i := 23) (v := ?_) rfl (by decide) (by kernel_rfl) (by kernel_rfl) (by kernel_rfl) (fun _ _ _ h => h) (Or.inl ⟨by rfl, ?hy23⟩) s7 (fun _ => t7) ?_
              case hy23 => (intro W hSw; (try dsimp only at hSw); go_simp; try with_reducible rfl)
              (try simp only [Act.put, List.setIfInBounds_toArray, List.set_cons_zero, List.set_cons_succ])
              refine wpAnyB_ready (rs := [24]) (by kernel_rfl) (by simp) ?_
              refine AllReadyB.cons rfl (fun K hK => ?_) AllReadyB.nil
              go_simp
              refine hK.out _ _ ((World.cell?_setCell_far _ _ _ _ (by show b2 ≠ b; exact fun e => hbb e.symm)).trans s7) (fun h => by cases h) ?_
              clear hK K
              (try simp only [Act.put, List.setIfInBounds_toArray, List.set_cons_zero, List.set_cons_succ])
              refine wpAnyB_end (by kernel_rfl) ?_
              clear hS1 hT1 hSE hTE HOE hzE hfE HFE nb nb2 l7 l8 l9 s7 t7 f7 hown7 hgr7 hat7 HH HOWN HROW f3 kc c1 hmx hby
              go_wp2
              go_ret
              exact HFin.out
          | false =>
            cases c4q : ((r : Int) == 4) with
            | true =>
              have hCd := HC3.out.drew
              clear HC3
              obtain ⟨b2, off2, cap2, aA, acap, kc, hbb, hbg, hb2g, hbl, hb2l, hz2, c0, c1, c2, hown, hrow, hal, H2, H4, H3⟩ := hCd.ctor (p := p) h0 HSM.out hd hk0
              have HH := Lib.hid H4
              have hR3 := Lib.hid hCd.rd
              have f3 := hz2 (off2 + 2)
              clear c0 c1 hown hrow hal H2 H4 H3 hCd hz2
              go_wp2_with fail
              refine wp_region_B (S := fun w' => w'.cell? ⟨b, off + d * 2 + 1, none⟩ = some (.slice (some ⟨b2, off2, none⟩) xs[d].ctors.length cap2)) (T := fun _ => True) (d := 10) (by kernel_rfl) ?_
              generalize w3.drew = wd at *
              have hS1 : wd.cell? ⟨b, off + d * 2 + 1, none⟩ = some (.slice (some ⟨b2, off2, none⟩) xs[d].ctors.length cap2) := kc
              have hT1 : True := trivial
              refine wpAnyB_take (i := 0) (v := ?_) rfl (by decide) (by kernel_rfl) (by kernel_rfl) (by kernel_rfl) (fun _ _ _ h => h) (Or.inl ⟨by rfl, ?hy0⟩) hS1 (fun _ => hT1) ?_
              case hy0 => (intro W hSw; (try dsimp only at hSw); go_simp; try with_reducible rfl)
              (try simp only [Act.put, List.setIfInBounds_toArray, List.set_cons_zero, List.set_cons_succ])
              refine wpAnyB_take (i := 1) (v := ?_) rfl (by decide) (by kernel_rfl) (by kernel_rfl) (by kernel_rfl) (fun _ _ _ h => h) (Or.inl ⟨by rfl, ?hy1⟩) hS1 (fun _ => hT1) ?_
              case hy1 => (intro W hSw; (try dsimp only at hSw); go_simp; try with_reducible rfl)
              (try simp only [Act.put, List.setIfInBounds_toArray, List.set_cons_zero, List.set_cons_succ])
              refine wpAnyB_take (i := 2) (v := ?_) rfl (by decide) (by kernel_rfl) (by kernel_rfl) (by kernel_rfl) (fun _ _ _ h => h) (Or.inl ⟨by rfl, ?hy2⟩) hS1 (fun _ => hT1) ?_
              case hy2 => (intro W hSw; (try dsimp only at hSw); go_simp; try with_reducible rfl)
              (try simp only [Act.put, List.setIfInBounds_toArray, List.set_cons_zero, List.set_cons_succ])
              refine wpAnyB_take (i := 3) (v := ?_) rfl (by decide) (by kernel_rfl) (by kernel_rfl) (by kernel_rfl) (fun _ _ _ h => h) (Or.inl ⟨by rfl, ?hy3⟩) hS1 (fun _ => hT1) ?_
              case hy3 => (intro W hSw; (try dsimp only at hSw); go_simp; try with_reducible rfl)
              (try simp only [Act.put, List.setIfInBounds_toArray, List.set_cons_zero, List.set_cons_succ])
              refine wpAnyB_take (i := 4) (v := ?_) rfl (by decide) (by kernel_rfl) (by kernel_rfl) (by kernel_rfl) (fun _ _ _ h => h) (Or.inl ⟨by rfl, ?hy4⟩) hS1 (fun _ => hT1) ?_
              case hy4 => (intro W hSw; (try dsimp only at hSw); go_simp; try with_reducible rfl)
              (try simp only [Act.put, List.setIfInBounds_toArray, List.set_cons_zero, List.set_cons_succ])
              refine wpAnyB_take (i := 5) (v := ?_) rfl (by decide) (by kernel_rfl) (by kernel_rfl) (by kernel_rfl) (fun _ _ _ h => h) (Or.inl ⟨by rfl, ?hy5⟩) hS1 (fun _ => hT1) ?_
              case hy5 => (intro W hSw; (try dsimp only at hSw); go_simp; try with_reducible rfl)
              (try simp only [Act.put, List.setIfInBounds_toArray, List.set_cons_zero, List.set_cons_succ])
              refine wpAnyB_ready (rs := [6]) (by kernel_rfl) (by simp) ?_
              refine AllReadyB.cons rfl (fun K hK => ?_) AllReadyB.nil
              go_simp
              refine hK.out _ _ ((World.cell?_alloc_lt _ _ _ hbl).trans kc) (fun _ => trivial) ?_
              clear hK K
              (try simp only [Act.put, List.setIfInBounds_toArray, List.set_cons_zero, List.set_cons_succ])
              refine wpAnyB_ready (rs := [7]) (by kernel_rfl) (by simp) ?_
              refine AllReadyB.cons rfl (fun K hK => ?_) AllReadyB.nil
              go_simp
              go_at_call 39
              refine (num_lit [4, -1, 1] (by decide) (by decide) (p + 1 + 1) g wd hR3.out (by omega)).mono ?_
              rintro e w4 ⟨s, hs, rfl, hR4, hC4⟩
              have hC5 := hC4
              have hS4 : w4.cell? ⟨b, off + d * 2 + 1, none⟩ = some (.slice (some ⟨b2, off2, none⟩) xs[d].ctors.length cap2) := (hC5.cell hbl hbg).trans kc
              have x4 : w4.cell? ⟨b2, off2 + 2, none⟩ = some (.int .i64 xs[d].ctors[0].idx) := (hC5.cell hb2l hb2g).trans c2
              have f4 : w4.frozen? ⟨b2, off2 + 2, none⟩ = false := (World.frozen?_of_block (a := ⟨b2, off2 + 2, none⟩) (hC5.block _ hb2l hb2g)).trans f3
              have HFin := Lib.hid (HH.out w4 _ s hR4 hC5 (by omega))
              dsimp only
              refine hK.out _ _ hS4 (fun _ => trivial) ?_
              clear hK K
              (try simp only [Act.put, List.setIfInBounds_toArray, List.set_cons_zero, List.set_cons_succ])
              refine wpAnyB_take (i := 8) (v := ?_) rfl (by decide) (by kernel_rfl) (by kernel_rfl) (by kernel_rfl) (fun _ _ _ h => h) (Or.inl ⟨by rfl, ?hy8⟩) hS4 (fun _ => hT1) ?_
              case hy8 => (intro W hSw; (try dsimp only at hSw); go_simp; try with_reducible rfl)
              (try simp only [Act.put, List.setIfInBounds_toArray, List.set_cons_zero, List.set_cons_succ])
              refine wpAnyB_take (i := 9) (v := ?_) rfl (by decide) (by kernel_rfl) (by kernel_rfl) (by kernel_rfl) (fun _ _ _ h => h) (Or.inl ⟨by rfl, ?hy9⟩) hS4 (fun _ => hT1) ?_
              case hy9 => (intro W hSw; (try dsimp only at hSw); go_simp; try with_reducible rfl)
              (try simp only [Act.put, List.setIfInBounds_toArray, List.set_cons_zero, List.set_cons_succ])
              refine wpAnyB_ready (rs := [10]) (by kernel_rfl) (by simp) ?_
              refine AllReadyB.cons rfl (fun K hK => ?_) AllReadyB.nil
              go_simp
              refine hK.out _ _ ((World.cell?_setCell_far _ _ _ _ (by show b2 ≠ b; exact fun e => hbb e.symm)).trans hS4) (fun _ => trivial) ?_
              clear hK K
              (try simp only [Act.put, List.setIfInBounds_toArray, List.set_cons_zero, List.set_cons_succ])
              refine wpAnyB_end (by kernel_rfl) ?_
              clear hS1 hT1 hS4 x4 f4 hC5 hC4 hR4 HH hR3 f3 kc c2
              go_wp2
              go_ret
              exact HFin.out
            | false =>
              cases c5q : ((r : Int) == 5) with
              | true =>
                obtain ⟨kA, kcap, F2, n0, k0, z0, hb, hbl, hk1, hk2, hdx, hF2, hname, hctors⟩ := HC3.out.data (p := p) h0 HSM.out hd
                have HDX := Lib.hid hdx
                have HF2 := Lib.hid hF2
                have hbs : w.heap.size ≤ w3.heap.size := HC3.out.chg.size
                clear z0 hdx hF2 hname hctors
                go_wp2_with (at_builtin; refine Halt.mk ?_)
                refine Halt.of (wpList_push1 (P := Try.prog) rfl _ _ 23 rfl m0 _ 40 Try.underlying23 HM.out HM0.out HM1.out HM2.out rfl (by decide) DtO_len DtO_mono (by rfl) HC3.out.own xs[d] 28 [.string xs[d].name, .slice kA xs[d].ctors.length kcap] F2 _ (by rfl) rfl (by simp [Value.oneCell']) HDX.out (fun x hx => (HF2.out x hx).2.2) (fun x hx hG => (HF2.out x hG).1 (by rw [rowOf_some, List.mem_singleton] at hx; exact hx)) (by unfold maxLen; omega) (by omega) hbs ?_)
                intro g' cp w7 hown7 hgr7 hat7
                have HFin := Lib.hid (HC3.out.twice (p := p) h0 HSM.out hd (fun x hx => (HF2.out x hx).2.1) rfl hown7 hgr7 (by omega))
                clear hown7 hgr7 hat7 n0 k0 hk1 hk2 HDX HF2 HC3
                go_wp2
                go_ret
                exact HFin.out
              | false =>
                have HFin := Lib.hid (HC3.out.done (p := p) h0 HSM.out (by omega))
                clear HC3
                go_wp2
                go_ret
                exact HFin.out
end Go.Proofs.Ytbejcgknjnhdpaa

namespace Go.Proofs.Ytbejcgknjnhdpaa
open Go.RowKit

theorem results_tmp_cell_row {P : Program} {fn : Func} {u p : Tmp} {ty : TypeId} (h : fn.results = #[.tmp u, .cell p ty]) (tmps : Array Value) (w : World) (g : Nat) (t : TypeId) (cs : Array Value) (fr : Nat × Nat) (d : TypeDesc)
    (hp : tmps.getD p undef = .pointer (some ⟨g, 0, none⟩)) (hg : w.heap[g]? = some (.cells cs t fr))
    (hu : P.underlying ty = some d) (hd : (match d with | .struct _ | .array _ _ => true | _ => false) = true) (hi : (P.info? ty).map (·.size) = some cs.size) :
    (results fn tmps).run P w = .ok (.tuple #[tmps.getD u undef, .agg cs]) w := by
  have hp' : tmps[p]?.getD undef = .pointer (some ⟨g, 0, none⟩) := by simpa using hp
  simp [results, h, hp', asAddr, run_loadVar_row w g t ty cs fr d hg hu hd hi]
theorem results_tmp_cell_tmp {P : Program} {fn : Func} {u p v : Tmp} {ty : TypeId} (h : fn.results = #[.tmp u, .cell p ty, .tmp v]) (tmps : Array Value) (w : World) (g : Nat) (t : TypeId) (cs : Array Value) (fr : Nat × Nat) (d : TypeDesc)
    (hp : tmps.getD p undef = .pointer (some ⟨g, 0, none⟩)) (hg : w.heap[g]? = some (.cells cs t fr))
    (hu : P.underlying ty = some d) (hd : (match d with | .struct _ | .array _ _ => true | _ => false) = true) (hi : (P.info? ty).map (·.size) = some cs.size) :
    (results fn tmps).run P w = .ok (.tuple #[tmps.getD u undef, .agg cs, tmps.getD v undef]) w := by
  have hp' : tmps[p]?.getD undef = .pointer (some ⟨g, 0, none⟩) := by simpa using hp
  simp [results, h, hp', asAddr, run_loadVar_row w g t ty cs fr d hg hu hd hi]
/-- a world of the call's own -/
def DrewW (w : World) (e : Ending) (w' : World) : Prop := ∃ xs v F, e = .returned v ∧ Below w.heap.size w w' ∧ Arr w' (DtR w') xs v F ∧ Fresh w w' F
/-- a world and a type -/
def DrewWT (w : World) (e : Ending) (w' : World) : Prop := ∃ xs v F, ∃ t : Ty, e = .returned (.tuple #[v, .agg #[.int .i64 t.d, .int .i64 t.i]]) ∧ Below w.heap.size w w' ∧ Arr w' (DtR w') xs v F ∧ Fresh w w' F
/-- a world, a type and a number -/
def DrewWTN (w : World) (e : Ending) (w' : World) : Prop := ∃ xs v F, ∃ t : Ty, ∃ n : Int, e = .returned (.tuple #[v, .agg #[.int .i64 t.d, .int .i64 t.i], .int .i64 n]) ∧ Below w.heap.size w w' ∧ Arr w' (DtR w') xs v F ∧ Fresh w w' F

theorem Chg.low {g B : Nat} {w w' : World} (h : Chg [g] w w') (hg : B ≤ g) (hB : B ≤ w.heap.size) : Below B w w' := h.below (fun b hb => by rw [List.mem_singleton] at hb; omega) hB
set_option maxRecDepth 100000 in
set_option maxHeartbeats 1600000 in
theorem spec_l1Two (bs : List Int) (w : World) (v : Value) (F : List Nat) (hx : Arr w (ByR w) bs v F) (hf : Under w.heap.size F) :
    Calls Try.prog 34 #[v] w (DrewWT w) := by
  have hb1 : Below w.heap.size w (w.alloc (.cells #[.int .i64 0, .int .i64 0] 33)) := (Below.refl _ _).alloc (Nat.le_refl _) _
  have HX1 : Hid (Arr (w.alloc (.cells #[.int .i64 0, .int .i64 0] 33)) (ByR (w.alloc (.cells #[.int .i64 0, .int .i64 0] 33))) bs v F) := ArrBy.mono hx (.of_below hb1 hf)
  have HU1 : Hid (Under (w.alloc (.cells #[.int .i64 0, .int .i64 0] 33)).heap.size F) := hf.mono hb1.size
  have KH1 : Hid (Blk (w.alloc (.cells #[.int .i64 0, .int .i64 0] 33)) w.heap.size 33 #[.int .i64 0, .int .i64 0]) := Blk.new _ _ _
  have hs1 : (w.alloc (.cells #[.int .i64 0, .int .i64 0] 33)).heap.size = w.heap.size + 1 := World.size_alloc _ _
  clear hx hf
  go_enter Try.func34, Try.ntmps34
  go_wp2_with fail
  generalize w.alloc (.cells #[.int .i64 0, .int .i64 0] 33) = w1 at *
  refine (spec_l17Open bs w1 v F HX1.out HU1.out).mono ?_
  rintro e w2 ⟨g, rfl, hge, hb2, hR2⟩
  have HR2 := Lib.hid hR2
  have hB2 : Below w.heap.size w w2 := hb1.trans (hb2.mono hb1.size)
  have KH2 := Lib.hid (KH1.out.same (hb2.block _ KH1.out.lt))
  have hgl := hR2.lt
  clear hR2 hb2 KH1 HX1 HU1
  go_wp2_with fail
  refine (spec_l1World 0 g w2 HR2.out (by omega)).mono ?_
  rintro e w3 ⟨xs, v3, F3, q3, rfl, ⟨hok, h0⟩, ha3, hfs3, hR3, hq3, hC3⟩
  have hW := worldOK hok
  have hlen := hW.len
  have HSM := Lib.hid (SmallW.of hW)
  have HR3 := Lib.hid hR3
  have HA3 := Lib.hid ha3
  have HF3 := Lib.hid hfs3
  have hB3 : Below w.heap.size w w3 := hB2.trans (hC3.low (by omega) hB2.size)
  have KH3 := Lib.hid (KH2.out.same (hC3.block _ KH2.out.lt (by simp; omega)))
  have hz3 := hC3.size
  obtain ⟨A3, cap3, rfl, hc1, hc2⟩ := ha3.form
  clear hR3 ha3 hfs3 hC3 hok hW KH2 HR2
  go_wp2_with fail
  refine (spec_l1Some q3 g w3 HR3.out (by omega) A3 xs.length cap3 h0 (by omega)).mono ?_
  rintro e w4 ⟨t, q4, rfl, hR4, hq4, hC4⟩
  have HR4 := Lib.hid hR4
  have HA4 : Hid (Arr w4 (DtR w4) xs (.slice A3 xs.length cap3) F3) := HA3.out.mono (hC4.kept HF3.out.under (fun b hb => by have := (HF3.out b hb).1; simp; omega)) fun y _ cs G hk h => DtR.mono (w := w3) (w' := w4) y cs G hk h
  have HU4 : Hid (Under w4.heap.size F3) := HF3.out.under.mono hC4.size
  have hB4 : Below w.heap.size w w4 := hB3.trans (hC4.low (by omega) hB3.size)
  have KH4 := Lib.hid (KH3.out.same (hC4.block _ KH3.out.lt (by simp; omega)))
  have hz4 := hC4.size
  clear hR4 hC4 KH3 HA3 HR3
  go_wp2_with fail
  have hb5 : Below w4.heap.size w4 (w4.alloc (.cells #[.int .i64 t.d, .int .i64 t.i] 33)) := (Below.refl _ _).alloc (Nat.le_refl _) _
  have HR5 : Hid (Rd (w4.alloc (.cells #[.int .i64 t.d, .int .i64 t.i] 33)).drew g q4) := HR4.out.below hb5.drew
  have HA5 : Hid (Arr (w4.alloc (.cells #[.int .i64 t.d, .int .i64 t.i] 33)).drew (DtR (w4.alloc (.cells #[.int .i64 t.d, .int .i64 t.i] 33)).drew) xs (.slice A3 xs.length cap3) F3) := ArrDt.drew (ArrDt.below HA4.out hb5 HU4.out)
  have HU5 : Hid (Under (w4.alloc (.cells #[.int .i64 t.d, .int .i64 t.i] 33)).drew.heap.size F3) := HU4.out.mono hb5.size
  have hB5 : Below w.heap.size w (w4.alloc (.cells #[.int .i64 t.d, .int .i64 t.i] 33)).drew := (hB4.trans (hb5.mono hB4.size)).drew
  have KH5 : Hid (Blk (w4.alloc (.cells #[.int .i64 t.d, .int .i64 t.i] 33)).drew w.heap.size 33 #[.int .i64 0, .int .i64 0]) := KH4.out.same (hb5.block _ KH4.out.lt)
  have KK5 : Hid (Blk (w4.alloc (.cells #[.int .i64 t.d, .int .i64 t.i] 33)).drew w4.heap.size 33 #[.int .i64 t.d, .int .i64 t.i]) := Blk.new _ _ _
  have hz5 : w4.heap.size < (w4.alloc (.cells #[.int .i64 t.d, .int .i64 t.i] 33)).drew.heap.size := KK5.out.lt
  have hz6 : w2.heap.size ≤ (w4.alloc (.cells #[.int .i64 t.d, .int .i64 t.i] 33)).drew.heap.size := by omega
  have HKg : Hid (w4.heap.size ≠ g ∧ w.heap.size ≠ g ∧ w.heap.size ≠ w4.heap.size) := ⟨by omega, by omega, by omega⟩
  refine wp_region_B (S := fun w' => w'.cell? ⟨w4.heap.size, 0, none⟩ = some (.int .i64 t.d) ∧ w'.cell? ⟨w4.heap.size, 1, none⟩ = some (.int .i64 t.i)) (T := fun _ => True) (d := 5) (by kernel_rfl) ?_
  generalize (w4.alloc (.cells #[.int .i64 t.d, .int .i64 t.i] 33)).drew = wd at *
  generalize w4.heap.size = k at *
  clear hb5 HR4 HA4 HU4 hB4 KH4 HF3
  have hS1 : wd.cell? ⟨k, 0, none⟩ = some (.int .i64 t.d) ∧ wd.cell? ⟨k, 1, none⟩ = some (.int .i64 t.i) := ⟨(KK5.out.cell 0).trans (by simp), (KK5.out.cell 1).trans (by simp)⟩
  have hT1 : True := trivial
  refine wpAnyB_take (i := 3) (v := ?_) rfl (by decide) (by kernel_rfl) (by kernel_rfl) (by kernel_rfl) (fun _ _ _ h => h) (Or.inl ⟨by rfl, ?hy3⟩) hS1 (fun _ => hT1) ?_
  case hy3 => (intro W hSw; obtain ⟨hSa, hSb⟩ := hSw; (try dsimp only at hSa hSb); go_simp; try with_reducible rfl)
  (try simp only [Act.put, List.setIfInBounds_toArray, List.set_cons_zero, List.set_cons_succ])
  refine wpAnyB_take (i := 0) (v := ?_) rfl (by decide) (by kernel_rfl) (by kernel_rfl) (by kernel_rfl) (fun _ _ _ h => h) (Or.inl ⟨by rfl, ?hy0⟩) hS1 (fun _ => hT1) ?_
  case hy0 => (intro W hSw; (try dsimp only at hSw); go_simp; try with_reducible rfl)
  (try simp only [Act.put, List.setIfInBounds_toArray, List.set_cons_zero, List.set_cons_succ])
  refine wpAnyB_take (i := 1) (v := ?_) rfl (by decide) (by kernel_rfl) (by kernel_rfl) (by kernel_rfl) (fun _ _ _ h => h) (Or.inl ⟨by rfl, ?hy1⟩) hS1 (fun _ => hT1) ?_
  case hy1 => (intro W hSw; (try dsimp only at hSw); go_simp; try with_reducible rfl)
  (try simp only [Act.put, List.setIfInBounds_toArray, List.set_cons_zero, List.set_cons_succ])
  refine wpAnyB_ready (rs := [2]) (by kernel_rfl) (by simp) ?_
  refine AllReadyB.cons rfl (fun K hK => ?_) AllReadyB.nil
  go_simp
  go_at_call 27
  refine (spec_l1Mutate q4 g wd HR5.out (by omega) xs _ F3 HA5.out HU5.out h0 (by omega) (HSM.out.mono (by omega))).mono ?_
  rintro e w6 ⟨ys, v6, F6, q6, rfl, -, ha6, hfs6, -, -, hC6⟩
  have hk6 : k ∉ [g] := by rw [List.mem_singleton]; exact HKg.out.1
  have hh6 : w.heap.size ∉ [g] := by rw [List.mem_singleton]; exact HKg.out.2.1
  have hS6 : w6.cell? ⟨k, 0, none⟩ = some (.int .i64 t.d) ∧ w6.cell? ⟨k, 1, none⟩ = some (.int .i64 t.i) := ⟨(hC6.cell hz5 hk6).trans hS1.1, (hC6.cell hz5 hk6).trans hS1.2⟩
  have KH6 : Blk w6 w.heap.size 33 #[.int .i64 0, .int .i64 0] := KH5.out.same (hC6.block _ KH5.out.lt hh6)
  have y0 : w6.cell? ⟨w.heap.size, 0, none⟩ = some (.int .i64 0) := (KH6.cell 0).trans (by simp)
  have y1 : w6.cell? ⟨w.heap.size, 1, none⟩ = some (.int .i64 0) := (KH6.cell 1).trans (by simp)
  have f0 := KH6.frozen 0
  have f1 := KH6.frozen 1
  have HS6 := Lib.hid hS6
  have hB6 : Below w.heap.size w w6 := hB5.trans (hC6.low (by omega) hB5.size)
  have hK7 : Blk ((w6.setCell ⟨w.heap.size, 0, none⟩ (.int .i64 t.d)).setCell ⟨w.heap.size, 1, none⟩ (.int .i64 t.i)) w.heap.size 33 #[.int .i64 t.d, .int .i64 t.i] := (KH6.set_ 0 _).set_ 1 _
  have hB7 : Below w.heap.size w ((w6.setCell ⟨w.heap.size, 0, none⟩ (.int .i64 t.d)).setCell ⟨w.heap.size, 1, none⟩ (.int .i64 t.i)) := (hB6.setCell (Nat.le_refl _) _).setCell (Nat.le_refl _) _
  have hhF : ∀ b ∈ F6, b ≠ w.heap.size := fun b hb e => by have := (hfs6 b hb).1; have := KH5.out.lt; omega
  have hA7 : Arr ((w6.setCell ⟨w.heap.size, 0, none⟩ (.int .i64 t.d)).setCell ⟨w.heap.size, 1, none⟩ (.int .i64 t.i)) (DtR ((w6.setCell ⟨w.heap.size, 0, none⟩ (.int .i64 t.d)).setCell ⟨w.heap.size, 1, none⟩ (.int .i64 t.i))) ys v6 F6 := ArrDt.mono ha6 (fun c hc => (Below.heap_setCell _ _ _ _ (hhF c hc)).trans (Below.heap_setCell _ _ _ _ (hhF c hc)))
  have hU7 : Fresh w ((w6.setCell ⟨w.heap.size, 0, none⟩ (.int .i64 t.d)).setCell ⟨w.heap.size, 1, none⟩ (.int .i64 t.i)) F6 := by
    have : ((w6.setCell ⟨w.heap.size, 0, none⟩ (.int .i64 t.d)).setCell ⟨w.heap.size, 1, none⟩ (.int .i64 t.i)).heap.size = w6.heap.size := by simp [World.setCell]
    exact fun b hb => ⟨Nat.le_trans hB5.size (hfs6 b hb).1, by rw [this]; exact (hfs6 b hb).2⟩
  have HFin : Hid (DrewWT w (.returned (.tuple #[v6, .agg #[.int .i64 t.d, .int .i64 t.i]])) ((w6.setCell ⟨w.heap.size, 0, none⟩ (.int .i64 t.d)).setCell ⟨w.heap.size, 1, none⟩ (.int .i64 t.i))) := ⟨ys, v6, F6, t, rfl, hB7, hA7, hU7⟩
  have HK7 := Lib.hid hK7
  clear hhF hA7 hU7 hB7 hK7 hB6 KH6 hC6 hfs6 ha6
  dsimp only
  refine hK.out _ _ hS6 (fun _ => trivial) ?_
  clear hK K
  (try simp only [Act.put, List.setIfInBounds_toArray, List.set_cons_zero, List.set_cons_succ])
  refine wpAnyB_take (i := 4) (v := ?_) rfl (by decide) (by kernel_rfl) (by kernel_rfl) (by kernel_rfl) (fun _ _ _ h => h) (Or.inl ⟨by rfl, ?hy4⟩) hS6 (fun _ => hT1) ?_
  case hy4 => (intro W hSw; (try dsimp only at hSw); go_simp; try with_reducible rfl)
  (try simp only [Act.put, List.setIfInBounds_toArray, List.set_cons_zero, List.set_cons_succ])
  refine wpAnyB_ready (rs := [5]) (by kernel_rfl) (by simp) ?_
  refine AllReadyB.cons rfl (fun K hK => ?_) AllReadyB.nil
  go_simp
  refine hK.out _ _ ⟨(World.cell?_setCell_far _ _ _ _ (by exact HKg.out.2.2)).trans ((World.cell?_setCell_far _ _ _ _ (by exact HKg.out.2.2)).trans HS6.out.1), (World.cell?_setCell_far _ _ _ _ (by exact HKg.out.2.2)).trans ((World.cell?_setCell_far _ _ _ _ (by exact HKg.out.2.2)).trans HS6.out.2)⟩ (fun _ => trivial) ?_
  clear hK K
  (try simp only [Act.put, List.setIfInBounds_toArray, List.set_cons_zero, List.set_cons_succ])
  refine wpAnyB_end (by kernel_rfl) ?_
  clear hS1 hT1 hS6 y0 y1 f0 f1
  go_wp2
  refine bodyPost_ret (results_tmp_cell_row rfl _ _ w.heap.size 33 #[.int .i64 t.d, .int .i64 t.i] (0, 0) _ rfl HK7.out Try.underlying33 rfl rfl) rfl ?_
  exact HFin.out
set_option maxRecDepth 100000 in
set_option maxHeartbeats 1600000 in
theorem spec_DrawWorldValid (bs : List Int) (w : World) (v : Value) (F : List Nat) (hx : Arr w (ByR w) bs v F) (hf : Under w.heap.size F) :
    Calls Try.prog 10 #[v] w (DrewW w) := by
  have HX := Lib.hid hx
  have HU := Lib.hid hf
  clear hx hf
  go_enter Try.func10, Try.ntmps10
  go_wp2_with fail
  refine (spec_l17Open bs w v F HX.out HU.out).mono ?_
  rintro e w2 ⟨g, rfl, hge, hb2, hR2⟩
  have HR2 := Lib.hid hR2
  have hgl := hR2.lt
  clear hR2 HX HU
  go_wp2_with fail
  refine (spec_l1World 0 g w2 HR2.out (by omega)).mono ?_
  rintro e w3 ⟨xs, v3, F3, q3, rfl, ⟨hok, h0⟩, ha3, hfs3, hR3, hq3, hC3⟩
  have hW := worldOK hok
  have hlen := hW.len
  have HSM := Lib.hid (SmallW.of hW)
  have HR3 := Lib.hid hR3
  have HA3 := Lib.hid ha3
  have HF3 := Lib.hid hfs3
  have hB3 : Below w.heap.size w w3 := hb2.trans (hC3.low (by omega) hb2.size)
  clear hR3 ha3 hfs3 hC3 hok hW HR2
  go_wp2_with fail
  refine (spec_l1Mutate q3 g w3 HR3.out (by omega) xs _ F3 HA3.out HF3.out.under h0 (by omega) (HSM.out.mono (by omega))).mono ?_
  rintro e w6 ⟨ys, v6, F6, q6, rfl, -, ha6, hfs6, -, -, hC6⟩
  have HFin : Hid (DrewW w (.returned v6) w6) := ⟨ys, v6, F6, rfl, hB3.trans (hC6.low (by omega) hB3.size), ha6, fun b hb => ⟨Nat.le_trans hB3.size (hfs6 b hb).1, (hfs6 b hb).2⟩⟩
  clear ha6 hfs6 hC6
  go_wp2
  go_ret
  exact HFin.out
set_option maxRecDepth 100000 in
set_option maxHeartbeats 1600000 in
theorem spec_DrawCtorsOf (bs : List Int) (w : World) (v : Value) (F : List Nat) (hx : Arr w (ByR w) bs v F) (hf : Under w.heap.size F) :
    Calls Try.prog 13 #[v] w (DrewWT w) := by
  have hb1 : Below w.heap.size w (w.alloc (.cells #[.int .i64 0, .int .i64 0] 33)) := (Below.refl _ _).alloc (Nat.le_refl _) _
  have HX1 : Hid (Arr (w.alloc (.cells #[.int .i64 0, .int .i64 0] 33)) (ByR (w.alloc (.cells #[.int .i64 0, .int .i64 0] 33))) bs v F) := ArrBy.mono hx (.of_below hb1 hf)
  have HU1 : Hid (Under (w.alloc (.cells #[.int .i64 0, .int .i64 0] 33)).heap.size F) := hf.mono hb1.size
  have KH1 : Hid (Blk (w.alloc (.cells #[.int .i64 0, .int .i64 0] 33)) w.heap.size 33 #[.int .i64 0, .int .i64 0]) := Blk.new _ _ _
  have hs1 : (w.alloc (.cells #[.int .i64 0, .int .i64 0] 33)).heap.size = w.heap.size + 1 := World.size_alloc _ _
  have HX0 := Lib.hid hx
  have HU0 := Lib.hid hf
  clear hx hf
  go_enter Try.func13, Try.ntmps13
  go_wp2_with fail
  generalize (w.alloc (.cells #[.int .i64 0, .int .i64 0] 33)) = w1 at *
  refine (spec_l1Two bs w1 v F HX1.out HU1.out).mono ?_
  rintro e w2 ⟨xs, v2, F2, t, rfl, hb2, ha2, hu2⟩
  have hB2 : Below w.heap.size w w2 := hb1.trans (hb2.mono hb1.size)
  have KH2 := KH1.out.same (hb2.block _ KH1.out.lt)
  have hns : ∀ c ∈ F2, c ≠ w.heap.size := fun c hc e => by have := (hu2 c hc).1; omega
  have y0 : w2.cell? ⟨w.heap.size, 0, none⟩ = some (.int .i64 0) := (KH2.cell 0).trans (by simp)
  have y1 : w2.cell? ⟨w.heap.size, 1, none⟩ = some (.int .i64 0) := (KH2.cell 1).trans (by simp)
  have f0 := KH2.frozen 0
  have f1 := KH2.frozen 1
  have HK7 : Hid (Blk ((w2.setCell ⟨w.heap.size, 0, none⟩ (.int .i64 t.d)).setCell ⟨w.heap.size, 1, none⟩ (.int .i64 t.i)) w.heap.size 33 #[.int .i64 t.d, .int .i64 t.i]) := (KH2.set_ 0 _).set_ 1 _
  have hB7 : Below w.heap.size w ((w2.setCell ⟨w.heap.size, 0, none⟩ (.int .i64 t.d)).setCell ⟨w.heap.size, 1, none⟩ (.int .i64 t.i)) := (hB2.setCell (Nat.le_refl _) _).setCell (Nat.le_refl _) _
  have hA7 : Arr ((w2.setCell ⟨w.heap.size, 0, none⟩ (.int .i64 t.d)).setCell ⟨w.heap.size, 1, none⟩ (.int .i64 t.i)) (DtR _) xs v2 F2 := ArrDt.mono ha2 (fun c hc => (Below.heap_setCell _ _ _ _ (hns c hc)).trans (Below.heap_setCell _ _ _ _ (hns c hc)))
  have hU7 : Fresh w ((w2.setCell ⟨w.heap.size, 0, none⟩ (.int .i64 t.d)).setCell ⟨w.heap.size, 1, none⟩ (.int .i64 t.i)) F2 := by
    have : ((w2.setCell ⟨w.heap.size, 0, none⟩ (.int .i64 t.d)).setCell ⟨w.heap.size, 1, none⟩ (.int .i64 t.i)).heap.size = w2.heap.size := by simp [World.setCell]
    exact fun b hb => ⟨by have := (hu2 b hb).1; omega, by rw [this]; exact (hu2 b hb).2⟩
  have HFin : Hid (DrewWT w (.returned (.tuple #[v2, .agg #[.int .i64 t.d, .int .i64 t.i]])) ((w2.setCell ⟨w.heap.size, 0, none⟩ (.int .i64 t.d)).setCell ⟨w.heap.size, 1, none⟩ (.int .i64 t.i))) := ⟨xs, v2, F2, t, rfl, hB7, hA7, hU7⟩
  clear hA7 hU7 hB7 ha2 hu2 hns KH2 hb2 KH1 HX1 HU1 HX0 HU0
  go_wp2
  refine bodyPost_ret (results_tmp_cell_row rfl _ _ w.heap.size 33 #[.int .i64 t.d, .int .i64 t.i] (0, 0) _ rfl HK7.out Try.underlying33 rfl rfl) rfl ?_
  exact HFin.out
set_option maxRecDepth 100000 in
set_option maxHeartbeats 1600000 in
theorem spec_DrawLeastDepth (bs : List Int) (w : World) (v : Value) (F : List Nat) (hx : Arr w (ByR w) bs v F) (hf : Under w.heap.size F) :
    Calls Try.prog 22 #[v] w (DrewWT w) := by
  have hb1 : Below w.heap.size w (w.alloc (.cells #[.int .i64 0, .int .i64 0] 33)) := (Below.refl _ _).alloc (Nat.le_refl _) _
  have HX1 : Hid (Arr (w.alloc (.cells #[.int .i64 0, .int .i64 0] 33)) (ByR (w.alloc (.cells #[.int .i64 0, .int .i64 0] 33))) bs v F) := ArrBy.mono hx (.of_below hb1 hf)
  have HU1 : Hid (Under (w.alloc (.cells #[.int .i64 0, .int .i64 0] 33)).heap.size F) := hf.mono hb1.size
  have KH1 : Hid (Blk (w.alloc (.cells #[.int .i64 0, .int .i64 0] 33)) w.heap.size 33 #[.int .i64 0, .int .i64 0]) := Blk.new _ _ _
  have hs1 : (w.alloc (.cells #[.int .i64 0, .int .i64 0] 33)).heap.size = w.heap.size + 1 := World.size_alloc _ _
  have HX0 := Lib.hid hx
  have HU0 := Lib.hid hf
  clear hx hf
  go_enter Try.func22, Try.ntmps22
  go_wp2_with fail
  generalize (w.alloc (.cells #[.int .i64 0, .int .i64 0] 33)) = w1 at *
  refine (spec_l1Two bs w1 v F HX1.out HU1.out).mono ?_
  rintro e w2 ⟨xs, v2, F2, t, rfl, hb2, ha2, hu2⟩
  have hB2 : Below w.heap.size w w2 := hb1.trans (hb2.mono hb1.size)
  have KH2 := KH1.out.same (hb2.block _ KH1.out.lt)
  have hns : ∀ c ∈ F2, c ≠ w.heap.size := fun c hc e => by have := (hu2 c hc).1; omega
  have y0 : w2.cell? ⟨w.heap.size, 0, none⟩ = some (.int .i64 0) := (KH2.cell 0).trans (by simp)
  have y1 : w2.cell? ⟨w.heap.size, 1, none⟩ = some (.int .i64 0) := (KH2.cell 1).trans (by simp)
  have f0 := KH2.frozen 0
  have f1 := KH2.frozen 1
  have HK7 : Hid (Blk ((w2.setCell ⟨w.heap.size, 0, none⟩ (.int .i64 t.d)).setCell ⟨w.heap.size, 1, none⟩ (.int .i64 t.i)) w.heap.size 33 #[.int .i64 t.d, .int .i64 t.i]) := (KH2.set_ 0 _).set_ 1 _
  have hB7 : Below w.heap.size w ((w2.setCell ⟨w.heap.size, 0, none⟩ (.int .i64 t.d)).setCell ⟨w.heap.size, 1, none⟩ (.int .i64 t.i)) := (hB2.setCell (Nat.le_refl _) _).setCell (Nat.le_refl _) _
  have hA7 : Arr ((w2.setCell ⟨w.heap.size, 0, none⟩ (.int .i64 t.d)).setCell ⟨w.heap.size, 1, none⟩ (.int .i64 t.i)) (DtR _) xs v2 F2 := ArrDt.mono ha2 (fun c hc => (Below.heap_setCell _ _ _ _ (hns c hc)).trans (Below.heap_setCell _ _ _ _ (hns c hc)))
  have hU7 : Fresh w ((w2.setCell ⟨w.heap.size, 0, none⟩ (.int .i64 t.d)).setCell ⟨w.heap.size, 1, none⟩ (.int .i64 t.i)) F2 := by
    have : ((w2.setCell ⟨w.heap.size, 0, none⟩ (.int .i64 t.d)).setCell ⟨w.heap.size, 1, none⟩ (.int .i64 t.i)).heap.size = w2.heap.size := by simp [World.setCell]
    exact fun b hb => ⟨by have := (hu2 b hb).1; omega, by rw [this]; exact (hu2 b hb).2⟩
  have HFin : Hid (DrewWT w (.returned (.tuple #[v2, .agg #[.int .i64 t.d, .int .i64 t.i]])) ((w2.setCell ⟨w.heap.size, 0, none⟩ (.int .i64 t.d)).setCell ⟨w.heap.size, 1, none⟩ (.int .i64 t.i))) := ⟨xs, v2, F2, t, rfl, hB7, hA7, hU7⟩
  clear hA7 hU7 hB7 ha2 hu2 hns KH2 hb2 KH1 HX1 HU1 HX0 HU0
  go_wp2
  refine bodyPost_ret (results_tmp_cell_row rfl _ _ w.heap.size 33 #[.int .i64 t.d, .int .i64 t.i] (0, 0) _ rfl HK7.out Try.underlying33 rfl rfl) rfl ?_
  exact HFin.out
set_option maxRecDepth 100000 in
set_option maxHeartbeats 1600000 in
theorem spec_DrawArgTypes (bs : List Int) (w : World) (v : Value) (F : List Nat) (hx : Arr w (ByR w) bs v F) (hf : Under w.heap.size F) :
    Calls Try.prog 19 #[v] w (DrewWTN w) := by
  have hb1 : Below w.heap.size w (w.alloc (.cells #[.int .i64 0, .int .i64 0] 33)) := (Below.refl _ _).alloc (Nat.le_refl _) _
  have HX1 : Hid (Arr (w.alloc (.cells #[.int .i64 0, .int .i64 0] 33)) (ByR (w.alloc (.cells #[.int .i64 0, .int .i64 0] 33))) bs v F) := ArrBy.mono hx (.of_below hb1 hf)
  have HU1 : Hid (Under (w.alloc (.cells #[.int .i64 0, .int .i64 0] 33)).heap.size F) := hf.mono hb1.size
  have KH1 : Hid (Blk (w.alloc (.cells #[.int .i64 0, .int .i64 0] 33)) w.heap.size 33 #[.int .i64 0, .int .i64 0]) := Blk.new _ _ _
  have hs1 : (w.alloc (.cells #[.int .i64 0, .int .i64 0] 33)).heap.size = w.heap.size + 1 := World.size_alloc _ _
  have HX0 := Lib.hid hx
  have HU0 := Lib.hid hf
  clear hx hf
  go_enter Try.func19, Try.ntmps19
  go_wp2_with fail
  generalize (w.alloc (.cells #[.int .i64 0, .int .i64 0] 33)) = w1 at *
  refine (spec_l1Two bs w1 v F HX1.out HU1.out).mono ?_
  rintro e w2 ⟨xs, v2, F2, t, rfl, hb2, ha2, hu2⟩
  have hB2 : Below w.heap.size w w2 := hb1.trans (hb2.mono hb1.size)
  have KH2 := KH1.out.same (hb2.block _ KH1.out.lt)
  have HNS : Hid (∀ c ∈ F2, c ≠ w.heap.size) := fun c hc e => by have := (hu2 c hc).1; omega
  have HFR : Hid (∀ c ∈ F2, w.heap.size ≤ c) := fun c hc => by have := (hu2 c hc).1; omega
  have hb5 : Below w2.heap.size w2 (w2.alloc (.cells #[.int .i64 t.d, .int .i64 t.i] 33)) := ((Below.refl _ _).alloc (Nat.le_refl _) _)
  have HA5 : Hid (Arr (w2.alloc (.cells #[.int .i64 t.d, .int .i64 t.i] 33)).drew (DtR (w2.alloc (.cells #[.int .i64 t.d, .int .i64 t.i] 33)).drew) xs v2 F2) := ArrDt.drew (ArrDt.below ha2 hb5 hu2.under)
  have HU5 : Hid (Under (w2.alloc (.cells #[.int .i64 t.d, .int .i64 t.i] 33)).drew.heap.size F2) := hu2.under.mono hb5.size
  have hB5 : Below w.heap.size w (w2.alloc (.cells #[.int .i64 t.d, .int .i64 t.i] 33)).drew := (hB2.trans (hb5.mono hB2.size)).drew
  have KH5 : Hid (Blk (w2.alloc (.cells #[.int .i64 t.d, .int .i64 t.i] 33)).drew w.heap.size 33 #[.int .i64 0, .int .i64 0]) := KH2.same (hb5.block _ KH2.lt)
  have KK5 : Hid (Blk (w2.alloc (.cells #[.int .i64 t.d, .int .i64 t.i] 33)).drew w2.heap.size 33 #[.int .i64 t.d, .int .i64 t.i]) := Blk.new _ _ _
  have hk5 : w2.heap.size < (w2.alloc (.cells #[.int .i64 t.d, .int .i64 t.i] 33)).drew.heap.size := KK5.out.lt
  have HHK : Hid (w.heap.size ≠ w2.heap.size) := by have := KH2.lt; unfold Hid; omega
  have HXD : Hid (Arr (w2.alloc (.cells #[.int .i64 t.d, .int .i64 t.i] 33)).drew (ByR (w2.alloc (.cells #[.int .i64 t.d, .int .i64 t.i] 33)).drew) bs v F) := ArrBy.mono HX0.out (.of_below hB5 HU0.out)
  have HUD : Hid (Under (w2.alloc (.cells #[.int .i64 t.d, .int .i64 t.i] 33)).drew.heap.size F) := HU0.out.mono hB5.size
  clear ha2 hu2 hB2 KH2 hb2 KH1 HX1 HU1 HX0 HU0
  go_wp2_with fail
  refine wp_region_B (S := fun w' => w'.cell? ⟨w2.heap.size, 0, none⟩ = some (.int .i64 t.d) ∧ w'.cell? ⟨w2.heap.size, 1, none⟩ = some (.int .i64 t.i)) (T := fun _ => True) (d := 7) (by kernel_rfl) ?_
  generalize (w2.alloc (.cells #[.int .i64 t.d, .int .i64 t.i] 33)).drew = wd at *
  generalize w2.heap.size = k at *
  clear hb5
  have hS1 : wd.cell? ⟨k, 0, none⟩ = some (.int .i64 t.d) ∧ wd.cell? ⟨k, 1, none⟩ = some (.int .i64 t.i) := ⟨(KK5.out.cell 0).trans (by simp), (KK5.out.cell 1).trans (by simp)⟩
  have hT1 : True := trivial
  refine wpAnyB_take (i := 1) (v := ?_) rfl (by decide) (by kernel_rfl) (by kernel_rfl) (by kernel_rfl) (fun _ _ _ h => h) (Or.inl ⟨by rfl, ?hy1⟩) hS1 (fun _ => hT1) ?_
  case hy1 => (intro W hSw; obtain ⟨hSa, hSb⟩ := hSw; (try dsimp only at hSa hSb); go_simp; try with_reducible rfl)
  (try simp only [Act.put, List.setIfInBounds_toArray, List.set_cons_zero, List.set_cons_succ])
  refine wpAnyB_take (i := 0) (v := ?_) rfl (by decide) (by kernel_rfl) (by kernel_rfl) (by kernel_rfl) (fun _ _ _ h => h) (Or.inl ⟨by rfl, ?hy0⟩) hS1 (fun _ => hT1) ?_
  case hy0 => (intro W hSw; (try dsimp only at hSw); go_simp; try with_reducible rfl)
  (try simp only [Act.put, List.setIfInBounds_toArray, List.set_cons_zero, List.set_cons_succ])
  refine wpAnyB_take (i := 2) (v := ?_) rfl (by decide) (by kernel_rfl) (by kernel_rfl) (by kernel_rfl) (fun _ _ _ h => h) (Or.inl ⟨by rfl, ?hy2⟩) hS1 (fun _ => hT1) ?_
  case hy2 => (intro W hSw; (try dsimp only at hSw); go_simp; try with_reducible rfl)
  (try simp only [Act.put, List.setIfInBounds_toArray, List.set_cons_zero, List.set_cons_succ])
  refine wpAnyB_ready (rs := [3, 4]) (by kernel_rfl) (by simp) ?_
  refine AllReadyB.cons rfl (fun K hK => ?_) (AllReadyB.cons rfl (fun K hK => ?_) AllReadyB.nil)
  · go_simp
    go_at_call 26
    refine (spec_l17Open bs wd v F HXD.out HUD.out).mono ?_
    rintro e w4 ⟨g, rfl, hge, hb4, hR4⟩
    dsimp only
    refine hK.out _ _ (⟨((hb4).cell hk5).trans hS1.1, ((hb4).cell hk5).trans hS1.2⟩) (fun _ => trivial) ?_
    clear hK K
    (try simp only [Act.put, List.setIfInBounds_toArray, List.set_cons_zero, List.set_cons_succ])
    refine wpAnyB_ready (rs := [4]) (by kernel_rfl) (by simp) ?_
    refine AllReadyB.cons rfl (fun K hK => ?_) AllReadyB.nil
    go_simp
    refine hK.out _ _ (⟨((hb4.trans (((Below.refl _ _).alloc (Nat.le_refl _) _).mono hb4.size)).cell hk5).trans hS1.1, ((hb4.trans (((Below.refl _ _).alloc (Nat.le_refl _) _).mono hb4.size)).cell hk5).trans hS1.2⟩) (fun _ => trivial) ?_
    clear hK K
    (try simp only [Act.put, List.setIfInBounds_toArray, List.set_cons_zero, List.set_cons_succ])
    refine wpAnyB_ready (rs := [5]) (by kernel_rfl) (by simp) ?_
    refine AllReadyB.cons rfl (fun K hK => ?_) AllReadyB.nil
    go_simp
    go_at_call 39
    refine (num_at (LitN.new w4 [1, 0, 2, 3, -1, 9] (by decide)) (by decide) (by decide) 0 g (hR4.below ((Below.refl _ _).alloc (Nat.le_refl _) _)) (by omega) (by have := hR4.lt; omega)).mono ?_
    rintro e w6 ⟨n, rfl, hR6, hC6⟩
    have hB6 : Below wd.heap.size wd w6 := (hb4.trans (((Below.refl _ _).alloc (Nat.le_refl _) _).mono hb4.size)).trans (hC6.low hge (by have := hb4.size; simp; omega))
    have hS6 : w6.cell? ⟨k, 0, none⟩ = some (.int .i64 t.d) ∧ w6.cell? ⟨k, 1, none⟩ = some (.int .i64 t.i) := ⟨((hB6).cell hk5).trans hS1.1, ((hB6).cell hk5).trans hS1.2⟩
    have KH6 := KH5.out.same (hB6.block _ KH5.out.lt)
    have y0 : w6.cell? ⟨w.heap.size, 0, none⟩ = some (.int .i64 0) := (KH6.cell 0).trans (by simp)
    have y1 : w6.cell? ⟨w.heap.size, 1, none⟩ = some (.int .i64 0) := (KH6.cell 1).trans (by simp)
    have f0 := KH6.frozen 0
    have f1 := KH6.frozen 1
    have HS6 := Lib.hid hS6
    have hB7 : Below w.heap.size w ((w6.setCell ⟨w.heap.size, 0, none⟩ (.int .i64 t.d)).setCell ⟨w.heap.size, 1, none⟩ (.int .i64 t.i)) := ((hB5.trans (hB6.mono hB5.size)).setCell (Nat.le_refl _) _).setCell (Nat.le_refl _) _
    have hA6 : Arr w6 (DtR w6) xs v2 F2 := ArrDt.below HA5.out hB6 HU5.out
    have hA7 : Arr ((w6.setCell ⟨w.heap.size, 0, none⟩ (.int .i64 t.d)).setCell ⟨w.heap.size, 1, none⟩ (.int .i64 t.i)) (DtR _) xs v2 F2 := ArrDt.mono hA6 (fun c hc => (Below.heap_setCell _ _ _ _ (HNS.out c hc)).trans (Below.heap_setCell _ _ _ _ (HNS.out c hc)))
    have hU7 : Fresh w ((w6.setCell ⟨w.heap.size, 0, none⟩ (.int .i64 t.d)).setCell ⟨w.heap.size, 1, none⟩ (.int .i64 t.i)) F2 := by
      have : ((w6.setCell ⟨w.heap.size, 0, none⟩ (.int .i64 t.d)).setCell ⟨w.heap.size, 1, none⟩ (.int .i64 t.i)).heap.size = w6.heap.size := by simp [World.setCell]
      have hz6 := hB6.size
      exact fun b hb => ⟨HFR.out b hb, by rw [this]; have := HU5.out b hb; omega⟩
    have HFin : Hid (DrewWTN w (.returned (.tuple #[v2, .agg #[.int .i64 t.d, .int .i64 t.i], .int .i64 n])) ((w6.setCell ⟨w.heap.size, 0, none⟩ (.int .i64 t.d)).setCell ⟨w.heap.size, 1, none⟩ (.int .i64 t.i))) := ⟨xs, v2, F2, t, n, rfl, hB7, hA7, hU7⟩
    have HK7 : Hid (Blk ((w6.setCell ⟨w.heap.size, 0, none⟩ (.int .i64 t.d)).setCell ⟨w.heap.size, 1, none⟩ (.int .i64 t.i)) w.heap.size 33 #[.int .i64 t.d, .int .i64 t.i]) := (KH6.set_ 0 _).set_ 1 _
    clear hB7 hA6 hA7 hU7 KH6 hB6
    dsimp only
    refine hK.out _ _ hS6 (fun _ => trivial) ?_
    clear hK K
    (try simp only [Act.put, List.setIfInBounds_toArray, List.set_cons_zero, List.set_cons_succ])
    refine wpAnyB_take (i := 6) (v := ?_) rfl (by decide) (by kernel_rfl) (by kernel_rfl) (by kernel_rfl) (fun _ _ _ h => h) (Or.inl ⟨by rfl, ?hy6⟩) hS6 (fun _ => hT1) ?_
    case hy6 => (intro W hSw; (try dsimp only at hSw); go_simp; try with_reducible rfl)
    (try simp only [Act.put, List.setIfInBounds_toArray, List.set_cons_zero, List.set_cons_succ])
    refine wpAnyB_ready (rs := [7]) (by kernel_rfl) (by simp) ?_
    refine AllReadyB.cons rfl (fun K hK => ?_) AllReadyB.nil
    go_simp
    refine hK.out _ _ ⟨(World.cell?_setCell_far _ _ _ _ (by exact HHK.out)).trans ((World.cell?_setCell_far _ _ _ _ (by exact HHK.out)).trans HS6.out.1), (World.cell?_setCell_far _ _ _ _ (by exact HHK.out)).trans ((World.cell?_setCell_far _ _ _ _ (by exact HHK.out)).trans HS6.out.2)⟩ (fun _ => trivial) ?_
    clear hK K
    (try simp only [Act.put, List.setIfInBounds_toArray, List.set_cons_zero, List.set_cons_succ])
    have hS8 : ((w6.setCell ⟨w.heap.size, 0, none⟩ (.int .i64 t.d)).setCell ⟨w.heap.size, 1, none⟩ (.int .i64 t.i)).cell? ⟨k, 0, none⟩ = some (.int .i64 t.d) ∧ ((w6.setCell ⟨w.heap.size, 0, none⟩ (.int .i64 t.d)).setCell ⟨w.heap.size, 1, none⟩ (.int .i64 t.i)).cell? ⟨k, 1, none⟩ = some (.int .i64 t.i) := ⟨(World.cell?_setCell_far _ _ _ _ (by exact HHK.out)).trans ((World.cell?_setCell_far _ _ _ _ (by exact HHK.out)).trans HS6.out.1), (World.cell?_setCell_far _ _ _ _ (by exact HHK.out)).trans ((World.cell?_setCell_far _ _ _ _ (by exact HHK.out)).trans HS6.out.2)⟩
    refine wpAnyB_ready (rs := [8]) (by kernel_rfl) (by simp) ?_
    refine AllReadyB.cons rfl (fun K hK => ?_) AllReadyB.nil
    go_simp
    refine hK.out _ _ hS8 (fun _ => trivial) ?_
    clear hK K
    (try simp only [Act.put, List.setIfInBounds_toArray, List.set_cons_zero, List.set_cons_succ])
    refine wpAnyB_end (by kernel_rfl) ?_
    clear hS1 hT1 hS6 hS8 y0 y1 f0 f1
    go_wp2
    refine bodyPost_ret (results_tmp_cell_tmp rfl _ _ w.heap.size 33 #[.int .i64 t.d, .int .i64 t.i] (0, 0) _ rfl HK7.out Try.underlying33 rfl rfl) rfl ?_
    exact HFin.out
  · go_simp
    refine hK.out _ _ (⟨((((Below.refl _ _).alloc (Nat.le_refl _) _)).cell hk5).trans hS1.1, ((((Below.refl _ _).alloc (Nat.le_refl _) _)).cell hk5).trans hS1.2⟩) (fun _ => trivial) ?_
    clear hK K
    (try simp only [Act.put, List.setIfInBounds_toArray, List.set_cons_zero, List.set_cons_succ])
    refine wpAnyB_ready (rs := [3]) (by kernel_rfl) (by simp) ?_
    refine AllReadyB.cons rfl (fun K hK => ?_) AllReadyB.nil
    go_simp
    go_at_call 26
    refine (spec_l17Open bs (wd.alloc _) v F (ArrBy.mono HXD.out (.of_below ((Below.refl _ _).alloc (Nat.le_refl _) _) HUD.out)) (HUD.out.mono (by simp))).mono ?_
    rintro e w4 ⟨g, rfl, hge, hb4, hR4⟩
    have hge2 : wd.heap.size < g := by rw [World.size_alloc] at hge; omega
    have hz4 := hb4.size
    rw [World.size_alloc] at hz4
    have hL4 : LitN w4 wd.heap.size [1, 0, 2, 3, -1, 9] := (LitN.new wd [1, 0, 2, 3, -1, 9] (by decide)).chg (F := []) (.of_below hb4) (by simp)
    dsimp only
    refine hK.out _ _ (⟨((((Below.refl _ _).alloc (Nat.le_refl _) _).trans (hb4.mono (by simp))).cell hk5).trans hS1.1, ((((Below.refl _ _).alloc (Nat.le_refl _) _).trans (hb4.mono (by simp))).cell hk5).trans hS1.2⟩) (fun _ => trivial) ?_
    clear hK K
    (try simp only [Act.put, List.setIfInBounds_toArray, List.set_cons_zero, List.set_cons_succ])
    refine wpAnyB_ready (rs := [5]) (by kernel_rfl) (by simp) ?_
    refine AllReadyB.cons rfl (fun K hK => ?_) AllReadyB.nil
    go_simp
    go_at_call 39
    refine (num_at hL4 (by decide) (by decide) 0 g hR4 (by omega) (by omega)).mono ?_
    rintro e w6 ⟨n, rfl, hR6, hC6⟩
    have hB6 : Below wd.heap.size wd w6 := (((Below.refl _ _).alloc (Nat.le_refl _) _).trans (hb4.mono (by simp))).trans (hC6.low (by omega) (by omega))
    have hS6 : w6.cell? ⟨k, 0, none⟩ = some (.int .i64 t.d) ∧ w6.cell? ⟨k, 1, none⟩ = some (.int .i64 t.i) := ⟨((hB6).cell hk5).trans hS1.1, ((hB6).cell hk5).trans hS1.2⟩
    have KH6 := KH5.out.same (hB6.block _ KH5.out.lt)
    have y0 : w6.cell? ⟨w.heap.size, 0, none⟩ = some (.int .i64 0) := (KH6.cell 0).trans (by simp)
    have y1 : w6.cell? ⟨w.heap.size, 1, none⟩ = some (.int .i64 0) := (KH6.cell 1).trans (by simp)
    have f0 := KH6.frozen 0
    have f1 := KH6.frozen 1
    have HS6 := Lib.hid hS6
    have hB7 : Below w.heap.size w ((w6.setCell ⟨w.heap.size, 0, none⟩ (.int .i64 t.d)).setCell ⟨w.heap.size, 1, none⟩ (.int .i64 t.i)) := ((hB5.trans (hB6.mono hB5.size)).setCell (Nat.le_refl _) _).setCell (Nat.le_refl _) _
    have hA6 : Arr w6 (DtR w6) xs v2 F2 := ArrDt.below HA5.out hB6 HU5.out
    have hA7 : Arr ((w6.setCell ⟨w.heap.size, 0, none⟩ (.int .i64 t.d)).setCell ⟨w.heap.size, 1, none⟩ (.int .i64 t.i)) (DtR _) xs v2 F2 := ArrDt.mono hA6 (fun c hc => (Below.heap_setCell _ _ _ _ (HNS.out c hc)).trans (Below.heap_setCell _ _ _ _ (HNS.out c hc)))
    have hU7 : Fresh w ((w6.setCell ⟨w.heap.size, 0, none⟩ (.int .i64 t.d)).setCell ⟨w.heap.size, 1, none⟩ (.int .i64 t.i)) F2 := by
      have : ((w6.setCell ⟨w.heap.size, 0, none⟩ (.int .i64 t.d)).setCell ⟨w.heap.size, 1, none⟩ (.int .i64 t.i)).heap.size = w6.heap.size := by simp [World.setCell]
      have hz6 := hB6.size
      exact fun b hb => ⟨HFR.out b hb, by rw [this]; have := HU5.out b hb; omega⟩
    have HFin : Hid (DrewWTN w (.returned (.tuple #[v2, .agg #[.int .i64 t.d, .int .i64 t.i], .int .i64 n])) ((w6.setCell ⟨w.heap.size, 0, none⟩ (.int .i64 t.d)).setCell ⟨w.heap.size, 1, none⟩ (.int .i64 t.i))) := ⟨xs, v2, F2, t, n, rfl, hB7, hA7, hU7⟩
    have HK7 : Hid (Blk ((w6.setCell ⟨w.heap.size, 0, none⟩ (.int .i64 t.d)).setCell ⟨w.heap.size, 1, none⟩ (.int .i64 t.i)) w.heap.size 33 #[.int .i64 t.d, .int .i64 t.i]) := (KH6.set_ 0 _).set_ 1 _
    clear hB7 hA6 hA7 hU7 KH6 hB6
    dsimp only
    refine hK.out _ _ hS6 (fun _ => trivial) ?_
    clear hK K
    (try simp only [Act.put, List.setIfInBounds_toArray, List.set_cons_zero, List.set_cons_succ])
    refine wpAnyB_take (i := 6) (v := ?_) rfl (by decide) (by kernel_rfl) (by kernel_rfl) (by kernel_rfl) (fun _ _ _ h => h) (Or.inl ⟨by rfl, ?hy6⟩) hS6 (fun _ => hT1) ?_
    case hy6 => (intro W hSw; (try dsimp only at hSw); go_simp; try with_reducible rfl)
    (try simp only [Act.put, List.setIfInBounds_toArray, List.set_cons_zero, List.set_cons_succ])
    refine wpAnyB_ready (rs := [7]) (by kernel_rfl) (by simp) ?_
    refine AllReadyB.cons rfl (fun K hK => ?_) AllReadyB.nil
    go_simp
    refine hK.out _ _ ⟨(World.cell?_setCell_far _ _ _ _ (by exact HHK.out)).trans ((World.cell?_setCell_far _ _ _ _ (by exact HHK.out)).trans HS6.out.1), (World.cell?_setCell_far _ _ _ _ (by exact HHK.out)).trans ((World.cell?_setCell_far _ _ _ _ (by exact HHK.out)).trans HS6.out.2)⟩ (fun _ => trivial) ?_
    clear hK K
    (try simp only [Act.put, List.setIfInBounds_toArray, List.set_cons_zero, List.set_cons_succ])
    have hS8 : ((w6.setCell ⟨w.heap.size, 0, none⟩ (.int .i64 t.d)).setCell ⟨w.heap.size, 1, none⟩ (.int .i64 t.i)).cell? ⟨k, 0, none⟩ = some (.int .i64 t.d) ∧ ((w6.setCell ⟨w.heap.size, 0, none⟩ (.int .i64 t.d)).setCell ⟨w.heap.size, 1, none⟩ (.int .i64 t.i)).cell? ⟨k, 1, none⟩ = some (.int .i64 t.i) := ⟨(World.cell?_setCell_far _ _ _ _ (by exact HHK.out)).trans ((World.cell?_setCell_far _ _ _ _ (by exact HHK.out)).trans HS6.out.1), (World.cell?_setCell_far _ _ _ _ (by exact HHK.out)).trans ((World.cell?_setCell_far _ _ _ _ (by exact HHK.out)).trans HS6.out.2)⟩
    refine wpAnyB_ready (rs := [8]) (by kernel_rfl) (by simp) ?_
    refine AllReadyB.cons rfl (fun K hK => ?_) AllReadyB.nil
    go_simp
    refine hK.out _ _ hS8 (fun _ => trivial) ?_
    clear hK K
    (try simp only [Act.put, List.setIfInBounds_toArray, List.set_cons_zero, List.set_cons_succ])
    refine wpAnyB_end (by kernel_rfl) ?_
    clear hS1 hT1 hS6 hS8 y0 y1 f0 f1
    go_wp2
    refine bodyPost_ret (results_tmp_cell_tmp rfl _ _ w.heap.size 33 #[.int .i64 t.d, .int .i64 t.i] (0, 0) _ rfl HK7.out Try.underlying33 rfl rfl) rfl ?_
    exact HFin.out
end Go.Proofs.Ytbejcgknjnhdpaa

namespace Go.Proofs.Ytbejcgknjnhdpaa
open Go.RowKit

/-- the index of what a constructor makes for a type with index i -/
def resIdx (c : Kt) (i : Int) : Int := if (c.idx == 0) = true then i else c.idx
def argTy (r : Int) (a : Ty) : Ty := if (a.i == -1) = true then ⟨a.d, r⟩ else a
def argsL (c : Kt) (i : Int) : List Ty := c.args.map (argTy (resIdx c i))
theorem argTy_yes {r : Int} {a : Ty} (h : (a.i == -1) = true) : argTy r a = ⟨a.d, r⟩ := if_pos h
theorem argTy_no {r : Int} {a : Ty} (h : (a.i == -1) = false) : argTy r a = a := if_neg (by simp [h])
def argsTo (r : Int) (l : List Ty) (j : Nat) : List Ty := (l.take j).map (argTy r)
theorem argsTo_len (r : Int) (l : List Ty) (j : Nat) : (argsTo r l j).length ≤ j := by unfold argsTo; rw [List.length_map, List.length_take]; omega
theorem argsTo_all (r : Int) (l : List Ty) {j : Nat} (h : l.length ≤ j) : argsTo r l j = l.map (argTy r) := by unfold argsTo; rw [List.take_of_length_le h]
theorem argsTo_succ (r : Int) (l : List Ty) (j : Nat) (h : j < l.length) : argsTo r l (j + 1) = argsTo r l j ++ [argTy r l[j]] := by unfold argsTo; rw [take_snoc' l j h, List.map_append]; rfl
theorem argsL_len (c : Kt) (i : Int) : (argsL c i).length = c.args.length := List.length_map _
theorem map_take_succ {α β : Type} (f : α → β) (l : List α) (j : Nat) (h : j < l.length) : (l.take (j + 1)).map f = (l.take j).map f ++ [f l[j]] := by rw [take_snoc' l j h, List.map_append]; rfl
set_option maxRecDepth 100000 in
set_option maxHeartbeats 1600000 in
theorem impl_argTypes (xs : List Dt) (d k : Nat) (i : Int) (hd : d < xs.length) (hk : k < xs[d].ctors.length) (w : World) (v : Value) (F : List Nat) (hx : Arr w (DtR w) xs v F) (hf : Under w.heap.size F) (hal : xs[d].ctors[k].args.length ≤ 3) :
    Calls Try.prog 41 #[v, .agg #[.int .i64 (d : Int), .int .i64 i], .int .i64 (k : Int)] w (GivesTys w (argsL xs[d].ctors[k] i)) := by
  obtain ⟨A, cap, rfl, hc1, hc2⟩ := hx.form
  obtain ⟨b, off, rfl⟩ := hx.ptr (by omega)
  have HX := Lib.hid hx
  have HF := Lib.hid hf
  clear hx hf
  obtain ⟨i0, hi, hz0, hz1, hz2⟩ := info_parts info_tyE
  have HI := Lib.hid hi
  have HZ0 := Lib.hid hz0
  have HZ1 := Lib.hid hz1
  have HZ2 := Lib.hid hz2
  clear hi hz0 hz1 hz2
  have hB1 : Below w.heap.size w (w.alloc (.cells #[.int .i64 (d : Int), .int .i64 i] 33)) := (Below.refl _ _).alloc (Nat.le_refl _) _
  obtain ⟨A1, cap1, G1, hb, c0, c1, HK, HG, -, hn1, hn2⟩ := ArrDt.at HX.out HF.out hB1 d hd
  clear c0
  obtain ⟨b2, off2, rfl⟩ := HK.out.ptr (by omega)
  obtain ⟨A3, cap3, G3, hb3, k0, k1, k2, HC, HG3, -, hn3, hn4⟩ := ArrKt.at HK.out HG.out hB1 k hk
  have g1 : (0 : Int) ≤ (d : Int) := by omega
  have g2 : (d : Int) < (xs.length : Int) := by omega
  have g3 : (0 : Int) ≤ (k : Int) := by omega
  have g4 : (k : Int) < (xs[d].ctors.length : Int) := by omega
  have hB2 : Below w.heap.size w ((w.alloc (.cells #[.int .i64 (d : Int), .int .i64 i] 33)).alloc (.cells #[.string xs[d].ctors[k].name, .slice A3 xs[d].ctors[k].args.length cap3, .int .i64 xs[d].ctors[k].idx] 31)) := hB1.alloc (by simp) _
  clear hB1
  cases q : (xs[d].ctors[k].idx == 0) with
  | true =>
    have HRI : Hid (resIdx xs[d].ctors[k] i = i) := if_pos q
    go_enter Try.func41, Try.ntmps41
    go_wp2
    clear q c1 k0 k1 k2 hb hb3
    go_loopw [9, 30] (fun ov jv wr => ∃ j : Nat, j ≤ xs[d].ctors[k].args.length ∧ jv = .int .i64 j ∧ Hid (Own wr (w.heap.size + 2) 33 2 TyR (argsTo (i) xs[d].ctors[k].args j) ov []) ∧ Below w.heap.size w wr ∧ w.heap.size + 2 ≤ wr.heap.size) (fun _ jv _ => xs[d].ctors[k].args.length - (intOf jv).toNat)
    case atStart => exact ⟨0, Nat.zero_le _, rfl, (show Own _ _ _ _ _ [] _ _ from Own.nil _ _ _ _ _), hB2, by simp⟩
    case round =>
      clear hB2
      obtain ⟨j, hj, rfl, HO, hB, hsz⟩ := hrel
      by_cases hjl : j < xs[d].ctors[k].args.length
      · obtain ⟨b3, off3, rfl⟩ := HC.out.ptr (by omega)
        obtain ⟨hb4, a0, a1⟩ := ArrTy.at HC.out HG3.out hB j hjl
        have g5 : (0 : Int) ≤ (j : Int) := by omega
        have g6 : (j : Int) < (xs[d].ctors[k].args.length : Int) := by omega
        cases q2 : (xs[d].ctors[k].args[j].i == -1) with
        | true =>
          have HF2 := Lib.hid ((argsTo_succ (i) xs[d].ctors[k].args j hjl).trans (by rw [argTy_yes q2]))
          have hb1 : Below wr.heap.size wr (wr.alloc (.cells #[.int .i64 xs[d].ctors[k].args[j].d, .int .i64 (i)] 33)) := (Below.refl _ _).alloc (Nat.le_refl _) _
          have hB1 := hB.trans (hb1.mono hB.size)
          have HO1 := Lib.hid (HO.out.below (fun x cs G hk h => TyR_mono' _ _ x cs G hk h) hb1)
          have hbs : w.heap.size + 2 ≤ (wr.alloc (.cells #[.int .i64 xs[d].ctors[k].args[j].d, .int .i64 (i)] 33)).heap.size := Nat.le_trans hsz hb1.size
          go_wp2_with (at_builtin; refine Halt.mk ?_)
          refine Halt.of (wpList_push1 (P := Try.prog) rfl _ _ 29 rfl i0 _ 16 Try.underlying29 HI.out HZ0.out HZ1.out HZ2.out rfl (by decide) TyR_len' TyR_mono' (by rfl) HO1.out ⟨xs[d].ctors[k].args[j].d, i⟩ 33 [.int .i64 (xs[d].ctors[k].args[j].d), .int .i64 (i)] [] _ (by rfl) (by simp) (by simp [Value.oneCell']) ⟨rfl, rfl⟩ (Under.nil _) (fun _ _ h => by cases h) (by have := argsTo_len (i) xs[d].ctors[k].args j; unfold maxLen; omega) (by have := argsTo_len (i) xs[d].ctors[k].args j; omega) hbs ?_)
          intro g cp w3 hown3 hgr3 hat3
          have hrow := HO1.out.row
          have hB3 : Below w.heap.size w w3 := (hB1.alloc hB1.size _).grown hgr3 (by have := hB1.size; simp; omega) (fun g hg => by have := hrow g (mem_rowOf.2 hg); omega)
          have HO3 := Lib.hid hown3
          have hsz3 : w.heap.size + 2 ≤ w3.heap.size := by have := hgr3.size; simp at this; omega
          clear hown3 hgr3 hat3 hrow
          go_wp2
          go_roundw
          case rel => exact ⟨j + 1, by omega, by go_num, (by rw [HF2.out]; exact HO3.out), hB3, hsz3⟩
          case measure => (simp [intOf] <;> omega)
        | false =>
          have HF2 := Lib.hid ((argsTo_succ (i) xs[d].ctors[k].args j hjl).trans (by rw [argTy_no q2]))
          have hb1 : Below wr.heap.size wr (wr.alloc (.cells #[.int .i64 xs[d].ctors[k].args[j].d, .int .i64 xs[d].ctors[k].args[j].i] 33)) := (Below.refl _ _).alloc (Nat.le_refl _) _
          have hB1 := hB.trans (hb1.mono hB.size)
          have HO1 := Lib.hid (HO.out.below (fun x cs G hk h => TyR_mono' _ _ x cs G hk h) hb1)
          have hbs : w.heap.size + 2 ≤ (wr.alloc (.cells #[.int .i64 xs[d].ctors[k].args[j].d, .int .i64 xs[d].ctors[k].args[j].i] 33)).heap.size := Nat.le_trans hsz hb1.size
          go_wp2_with (at_builtin; refine Halt.mk ?_)
          refine Halt.of (wpList_push1 (P := Try.prog) rfl _ _ 29 rfl i0 _ 16 Try.underlying29 HI.out HZ0.out HZ1.out HZ2.out rfl (by decide) TyR_len' TyR_mono' (by rfl) HO1.out ⟨xs[d].ctors[k].args[j].d, xs[d].ctors[k].args[j].i⟩ 33 [.int .i64 (xs[d].ctors[k].args[j].d), .int .i64 (xs[d].ctors[k].args[j].i)] [] _ (by rfl) (by simp) (by simp [Value.oneCell']) ⟨rfl, rfl⟩ (Under.nil _) (fun _ _ h => by cases h) (by have := argsTo_len (i) xs[d].ctors[k].args j; unfold maxLen; omega) (by have := argsTo_len (i) xs[d].ctors[k].args j; omega) hbs ?_)
          intro g cp w3 hown3 hgr3 hat3
          have hrow := HO1.out.row
          have hB3 : Below w.heap.size w w3 := (hB1.alloc hB1.size _).grown hgr3 (by have := hB1.size; simp; omega) (fun g hg => by have := hrow g (mem_rowOf.2 hg); omega)
          have HO3 := Lib.hid hown3
          have hsz3 : w.heap.size + 2 ≤ w3.heap.size := by have := hgr3.size; simp at this; omega
          clear hown3 hgr3 hat3 hrow
          go_wp2
          go_roundw
          case rel => exact ⟨j + 1, by omega, by go_num, (by rw [HF2.out]; exact HO3.out), hB3, hsz3⟩
          case measure => (simp [intOf] <;> omega)
      · have hfin : GivesTys w (argsL xs[d].ctors[k] i) (.returned u9) wr := by
          unfold argsL
          rw [HRI.out]
          have h := HO.out
          rw [argsTo_all _ _ (by omega)] at h
          exact h.tys hB (by omega)
        have HFin := Lib.hid hfin
        clear hfin
        go_wp2
        go_ret
        exact HFin.out
  | false =>
    have HRI : Hid (resIdx xs[d].ctors[k] i = xs[d].ctors[k].idx) := if_neg (by simp [q])
    go_enter Try.func41, Try.ntmps41
    go_wp2
    clear q c1 k0 k1 k2 hb hb3
    go_loopw [9, 30] (fun ov jv wr => ∃ j : Nat, j ≤ xs[d].ctors[k].args.length ∧ jv = .int .i64 j ∧ Hid (Own wr (w.heap.size + 2) 33 2 TyR (argsTo (xs[d].ctors[k].idx) xs[d].ctors[k].args j) ov []) ∧ Below w.heap.size w wr ∧ w.heap.size + 2 ≤ wr.heap.size) (fun _ jv _ => xs[d].ctors[k].args.length - (intOf jv).toNat)
    case atStart => exact ⟨0, Nat.zero_le _, rfl, (show Own _ _ _ _ _ [] _ _ from Own.nil _ _ _ _ _), hB2, by simp⟩
    case round =>
      clear hB2
      obtain ⟨j, hj, rfl, HO, hB, hsz⟩ := hrel
      by_cases hjl : j < xs[d].ctors[k].args.length
      · obtain ⟨b3, off3, rfl⟩ := HC.out.ptr (by omega)
        obtain ⟨hb4, a0, a1⟩ := ArrTy.at HC.out HG3.out hB j hjl
        have g5 : (0 : Int) ≤ (j : Int) := by omega
        have g6 : (j : Int) < (xs[d].ctors[k].args.length : Int) := by omega
        cases q2 : (xs[d].ctors[k].args[j].i == -1) with
        | true =>
          have HF2 := Lib.hid ((argsTo_succ (xs[d].ctors[k].idx) xs[d].ctors[k].args j hjl).trans (by rw [argTy_yes q2]))
          have hb1 : Below wr.heap.size wr (wr.alloc (.cells #[.int .i64 xs[d].ctors[k].args[j].d, .int .i64 (xs[d].ctors[k].idx)] 33)) := (Below.refl _ _).alloc (Nat.le_refl _) _
          have hB1 := hB.trans (hb1.mono hB.size)
          have HO1 := Lib.hid (HO.out.below (fun x cs G hk h => TyR_mono' _ _ x cs G hk h) hb1)
          have hbs : w.heap.size + 2 ≤ (wr.alloc (.cells #[.int .i64 xs[d].ctors[k].args[j].d, .int .i64 (xs[d].ctors[k].idx)] 33)).heap.size := Nat.le_trans hsz hb1.size
          go_wp2_with (at_builtin; refine Halt.mk ?_)
          refine Halt.of (wpList_push1 (P := Try.prog) rfl _ _ 29 rfl i0 _ 16 Try.underlying29 HI.out HZ0.out HZ1.out HZ2.out rfl (by decide) TyR_len' TyR_mono' (by rfl) HO1.out ⟨xs[d].ctors[k].args[j].d, xs[d].ctors[k].idx⟩ 33 [.int .i64 (xs[d].ctors[k].args[j].d), .int .i64 (xs[d].ctors[k].idx)] [] _ (by rfl) (by simp) (by simp [Value.oneCell']) ⟨rfl, rfl⟩ (Under.nil _) (fun _ _ h => by cases h) (by have := argsTo_len (xs[d].ctors[k].idx) xs[d].ctors[k].args j; unfold maxLen; omega) (by have := argsTo_len (xs[d].ctors[k].idx) xs[d].ctors[k].args j; omega) hbs ?_)
          intro g cp w3 hown3 hgr3 hat3
          have hrow := HO1.out.row
          have hB3 : Below w.heap.size w w3 := (hB1.alloc hB1.size _).grown hgr3 (by have := hB1.size; simp; omega) (fun g hg => by have := hrow g (mem_rowOf.2 hg); omega)
          have HO3 := Lib.hid hown3
          have hsz3 : w.heap.size + 2 ≤ w3.heap.size := by have := hgr3.size; simp at this; omega
          clear hown3 hgr3 hat3 hrow
          go_wp2
          go_roundw
          case rel => exact ⟨j + 1, by omega, by go_num, (by rw [HF2.out]; exact HO3.out), hB3, hsz3⟩
          case measure => (simp [intOf] <;> omega)
        | false =>
          have HF2 := Lib.hid ((argsTo_succ (xs[d].ctors[k].idx) xs[d].ctors[k].args j hjl).trans (by rw [argTy_no q2]))
          have hb1 : Below wr.heap.size wr (wr.alloc (.cells #[.int .i64 xs[d].ctors[k].args[j].d, .int .i64 xs[d].ctors[k].args[j].i] 33)) := (Below.refl _ _).alloc (Nat.le_refl _) _
          have hB1 := hB.trans (hb1.mono hB.size)
          have HO1 := Lib.hid (HO.out.below (fun x cs G hk h => TyR_mono' _ _ x cs G hk h) hb1)
          have hbs : w.heap.size + 2 ≤ (wr.alloc (.cells #[.int .i64 xs[d].ctors[k].args[j].d, .int .i64 xs[d].ctors[k].args[j].i] 33)).heap.size := Nat.le_trans hsz hb1.size
          go_wp2_with (at_builtin; refine Halt.mk ?_)
          refine Halt.of (wpList_push1 (P := Try.prog) rfl _ _ 29 rfl i0 _ 16 Try.underlying29 HI.out HZ0.out HZ1.out HZ2.out rfl (by decide) TyR_len' TyR_mono' (by rfl) HO1.out ⟨xs[d].ctors[k].args[j].d, xs[d].ctors[k].args[j].i⟩ 33 [.int .i64 (xs[d].ctors[k].args[j].d), .int .i64 (xs[d].ctors[k].args[j].i)] [] _ (by rfl) (by simp) (by simp [Value.oneCell']) ⟨rfl, rfl⟩ (Under.nil _) (fun _ _ h => by cases h) (by have := argsTo_len (xs[d].ctors[k].idx) xs[d].ctors[k].args j; unfold maxLen; omega) (by have := argsTo_len (xs[d].ctors[k].idx) xs[d].ctors[k].args j; omega) hbs ?_)
          intro g cp w3 hown3 hgr3 hat3
          have hrow := HO1.out.row
          have hB3 : Below w.heap.size w w3 := (hB1.alloc hB1.size _).grown hgr3 (by have := hB1.size; simp; omega) (fun g hg => by have := hrow g (mem_rowOf.2 hg); omega)
          have HO3 := Lib.hid hown3
          have hsz3 : w.heap.size + 2 ≤ w3.heap.size := by have := hgr3.size; simp at this; omega
          clear hown3 hgr3 hat3 hrow
          go_wp2
          go_roundw
          case rel => exact ⟨j + 1, by omega, by go_num, (by rw [HF2.out]; exact HO3.out), hB3, hsz3⟩
          case measure => (simp [intOf] <;> omega)
      · have hfin : GivesTys w (argsL xs[d].ctors[k] i) (.returned u9) wr := by
          unfold argsL
          rw [HRI.out]
          have h := HO.out
          rw [argsTo_all _ _ (by omega)] at h
          exact h.tys hB (by omega)
        have HFin := Lib.hid hfin
        clear hfin
        go_wp2
        go_ret
        exact HFin.out
end Go.Proofs.Ytbejcgknjnhdpaa

namespace Go.Proofs.Ytbejcgknjnhdpaa
open Go.RowKit

set_option maxRecDepth 100000 in
set_option maxHeartbeats 1600000 in
theorem spec_l1Result (c : Kt) (i : Int) (A : Option Addr) (n cap : Nat) (w : World) : Calls Try.prog 64 #[.agg #[.string c.name, .slice A n cap, .int .i64 c.idx], .int .i64 i] w fun e w' => e = .returned (.int .i64 (resIdx c i)) ∧ Below w.heap.size w w' := by
  cases q : (c.idx == 0) with
  | true =>
    have hf : Hid (resIdx c i = i) := if_pos q
    go_enter Try.func64, Try.ntmps64
    go_wp2
    go_ret
    exact ⟨ret_int hf.out.symm, (Below.refl _ _).alloc (Nat.le_refl _) _⟩
  | false =>
    have hf : Hid (resIdx c i = c.idx) := if_neg (by simp [q])
    go_enter Try.func64, Try.ntmps64
    go_wp2
    go_ret
    exact ⟨ret_int hf.out.symm, (Below.refl _ _).alloc (Nat.le_refl _) _⟩
set_option maxRecDepth 100000 in
set_option maxHeartbeats 1600000 in
theorem spec_l1Args (xs : List Dt) (d k : Nat) (i : Int) (hd : d < xs.length) (hk : k < xs[d].ctors.length) (w : World) (v : Value) (F : List Nat) (hx : Arr w (DtR w) xs v F) (hf : Under w.heap.size F) (hal : xs[d].ctors[k].args.length ≤ 3) :
    Calls Try.prog 43 #[v, .agg #[.int .i64 (d : Int), .int .i64 i], .int .i64 (k : Int)] w (GivesTys w (argsL xs[d].ctors[k] i)) := by
  obtain ⟨A, cap, rfl, hc1, hc2⟩ := hx.form
  obtain ⟨b, off, rfl⟩ := hx.ptr (by omega)
  have HX := Lib.hid hx
  have HF := Lib.hid hf
  clear hx hf
  obtain ⟨i0, hi, hz0, hz1, hz2⟩ := info_parts info_tyE
  have HI := Lib.hid hi
  have HZ0 := Lib.hid hz0
  have HZ1 := Lib.hid hz1
  have HZ2 := Lib.hid hz2
  clear hi hz0 hz1 hz2
  have hB0 : Below w.heap.size w ((w.alloc (.cells #[.int .i64 (d : Int), .int .i64 i] 33)).alloc (.cells #[] 33)) := ((Below.refl _ _).alloc (Nat.le_refl _) _).alloc (by simp) _
  obtain ⟨A1, cap1, G1, hb, c0, c1, HK, HG, -, hn1, hn2⟩ := ArrDt.at HX.out HF.out hB0 d hd
  clear c0
  obtain ⟨b2, off2, rfl⟩ := HK.out.ptr (by omega)
  obtain ⟨A3, cap3, G3, hb3, k0, k1, k2, HC, HG3, -, hn3, hn4⟩ := ArrKt.at HK.out HG.out hB0 k hk
  have g1 : (0 : Int) ≤ (d : Int) := by omega
  have g2 : (d : Int) < (xs.length : Int) := by omega
  have g3 : (0 : Int) ≤ (k : Int) := by omega
  have g4 : (k : Int) < (xs[d].ctors.length : Int) := by omega
  have HL := Lib.hid hal
  go_enter Try.func43, Try.ntmps43
  go_wp2
  clear c1 k0 k1 k2 hb hb3
  have hB2 : Below w.heap.size w (((w.alloc (.cells #[.int .i64 (d : Int), .int .i64 i] 33)).alloc (.cells #[] 33)).alloc (.cells #[.string xs[d].ctors[k].name, .slice A3 xs[d].ctors[k].args.length cap3, .int .i64 xs[d].ctors[k].idx] 31)) := hB0.alloc (by simp; omega) _
  have KT0 : Hid (Blk (((w.alloc (.cells #[.int .i64 (d : Int), .int .i64 i] 33)).alloc (.cells #[] 33)).alloc (.cells #[.string xs[d].ctors[k].name, .slice A3 xs[d].ctors[k].args.length cap3, .int .i64 xs[d].ctors[k].idx] 31)) w.heap.size 33 #[.int .i64 (d : Int), .int .i64 i]) := ((Blk.new _ _ _).same (Below.heap_alloc _ _ _ (by simp))).same (Below.heap_alloc _ _ _ (by simp; omega))
  have KC0 : Hid (Blk (((w.alloc (.cells #[.int .i64 (d : Int), .int .i64 i] 33)).alloc (.cells #[] 33)).alloc (.cells #[.string xs[d].ctors[k].name, .slice A3 xs[d].ctors[k].args.length cap3, .int .i64 xs[d].ctors[k].idx] 31)) (w.heap.size + 2) 31 #[.string xs[d].ctors[k].name, .slice A3 xs[d].ctors[k].args.length cap3, .int .i64 xs[d].ctors[k].idx]) := by
    have h := Blk.new ((w.alloc (.cells #[.int .i64 (d : Int), .int .i64 i] 33)).alloc (.cells #[] 33)) 31 #[.string xs[d].ctors[k].name, .slice A3 xs[d].ctors[k].args.length cap3, .int .i64 xs[d].ctors[k].idx]
    rw [show ((w.alloc (.cells #[.int .i64 (d : Int), .int .i64 i] 33)).alloc (.cells #[] 33)).heap.size = w.heap.size + 2 from by simp] at h
    exact h
  have HO0 : Hid (Own (((w.alloc (.cells #[.int .i64 (d : Int), .int .i64 i] 33)).alloc (.cells #[] 33)).alloc (.cells #[.string xs[d].ctors[k].name, .slice A3 xs[d].ctors[k].args.length cap3, .int .i64 xs[d].ctors[k].idx] 31)) (w.heap.size + 1) 33 2 TyR ([] : List Ty) (.slice (some ⟨w.heap.size + 1, 0, none⟩) 0 0) []) := by
    have h := Own.made (w.alloc (.cells #[.int .i64 (d : Int), .int .i64 i] 33)) (w.heap.size + 1) 33 2 TyR #[] 0 (by simp) (by simp [maxLen]) rfl
    rw [World.size_alloc] at h
    exact h.below (fun x cs G hk h => TyR_mono' _ _ x cs G hk h) ((Below.refl _ _).alloc (Nat.le_refl _) _)
  go_loopw [7, 9] (fun ov jv wr => ∃ j : Nat, j ≤ xs[d].ctors[k].args.length ∧ jv = .int .i64 j ∧ Hid (Own wr (w.heap.size + 1) 33 2 TyR (argsTo (resIdx xs[d].ctors[k] i) xs[d].ctors[k].args j) ov []) ∧ Below w.heap.size w wr ∧ Hid (Blk wr w.heap.size 33 #[.int .i64 (d : Int), .int .i64 i]) ∧ Hid (Blk wr (w.heap.size + 2) 31 #[.string xs[d].ctors[k].name, .slice A3 xs[d].ctors[k].args.length cap3, .int .i64 xs[d].ctors[k].idx]) ∧ Hid (∀ g' ∈ rowOf ov, g' = w.heap.size + 1 ∨ w.heap.size + 3 ≤ g')) (fun _ jv _ => xs[d].ctors[k].args.length - (intOf jv).toNat)
  case atStart => exact ⟨0, Nat.zero_le _, rfl, HO0, hB2, KT0, KC0, fun g' hg' => by rw [rowOf_some, List.mem_singleton] at hg'; exact .inl hg'⟩
  case round =>
    clear hB2 hB0 KT0 KC0 HO0
    obtain ⟨j, hj, rfl, HO, hB, KT, KC, HN⟩ := hrel
    have y1 : wr.cell? ⟨w.heap.size, 1, none⟩ = some (.int .i64 i) := (KT.out.cell 1).trans (by simp)
    have q0 : wr.cell? ⟨w.heap.size + 2, 0, none⟩ = some (.string xs[d].ctors[k].name) := (KC.out.cell 0).trans (by simp)
    have q1 : wr.cell? ⟨w.heap.size + 2, 1, none⟩ = some (.slice A3 xs[d].ctors[k].args.length cap3) := (KC.out.cell 1).trans (by simp)
    have q2 : wr.cell? ⟨w.heap.size + 2, 2, none⟩ = some (.int .i64 xs[d].ctors[k].idx) := (KC.out.cell 2).trans (by simp)
    have hsz := KC.out.lt
    have hsz0 := KT.out.lt
    by_cases hjl : j < xs[d].ctors[k].args.length
    · obtain ⟨b3, off3, rfl⟩ := HC.out.ptr (by omega)
      obtain ⟨hb4, a0, a1⟩ := ArrTy.at HC.out HG3.out hB j hjl
      have g5 : (0 : Int) ≤ (j : Int) := by omega
      have g6 : (j : Int) < (xs[d].ctors[k].args.length : Int) := by omega
      have hbx : Below wr.heap.size wr (wr.alloc (.cells #[.int .i64 xs[d].ctors[k].args[j].d, .int .i64 xs[d].ctors[k].args[j].i] 33)) := (Below.refl _ _).alloc (Nat.le_refl _) _
      have hBx := hB.trans (hbx.mono hB.size)
      have HOx := Lib.hid (HO.out.below (fun x cs G hk h => TyR_mono' _ _ x cs G hk h) hbx)
      have KTx := Lib.hid (KT.out.same (hbx.block _ KT.out.lt))
      have KCx := Lib.hid (KC.out.same (hbx.block _ KC.out.lt))
      cases q3 : (xs[d].ctors[k].args[j].i == -1) with
      | true =>
        have HF2 := Lib.hid ((argsTo_succ (resIdx xs[d].ctors[k] i) xs[d].ctors[k].args j hjl).trans (by rw [argTy_yes q3]))
        have KX := Lib.hid (Blk.new wr 33 #[.int .i64 xs[d].ctors[k].args[j].d, .int .i64 xs[d].ctors[k].args[j].i])
        go_wp2_with fail
        obtain ⟨W4, hW4⟩ : ∃ W4, W4 = wr.alloc (.cells #[.int .i64 xs[d].ctors[k].args[j].d, .int .i64 xs[d].ctors[k].args[j].i] 33) := ⟨_, rfl⟩
        rw [← hW4] at hbx hBx HOx KTx KCx KX ⊢
        clear hW4
        refine (spec_l1Result xs[d].ctors[k] i _ _ _ W4).mono ?_
        rintro e w4 ⟨rfl, hb4'⟩
        have hB4 := hBx.trans (hb4'.mono hBx.size)
        have HO4 := Lib.hid (HOx.out.below (fun x cs G hk h => TyR_mono' _ _ x cs G hk h) hb4')
        have KT4 := Lib.hid (KTx.out.same (hb4'.block _ KTx.out.lt))
        have KC4 := Lib.hid (KCx.out.same (hb4'.block _ KCx.out.lt))
        have k4 := KX.out.same (hb4'.block _ KX.out.lt)
        have z0 : w4.cell? ⟨wr.heap.size, 0, none⟩ = some (.int .i64 xs[d].ctors[k].args[j].d) := (k4.cell 0).trans (by simp)
        have z1 : w4.cell? ⟨wr.heap.size, 1, none⟩ = some (.int .i64 xs[d].ctors[k].args[j].i) := (k4.cell 1).trans (by simp)
        have zf := k4.frozen 1
        have hz4 := k4.lt
        have hrw := HO4.out.row
        have hrow0 := HO.out.row
        have hB1 : Below w.heap.size w (w4.setCell ⟨wr.heap.size, 1, none⟩ (.int .i64 (resIdx xs[d].ctors[k] i))) := hB4.setCell (by show w.heap.size ≤ wr.heap.size; omega) _
        have HO1 := Lib.hid (Own.set (j := 1) (b := wr.heap.size) TyR_mono' HO4.out (.int .i64 (resIdx xs[d].ctors[k] i)) (fun h => by have := (hrow0 _ h).2; omega) (fun h => by cases h))
        have KT1 : Hid (Blk (w4.setCell ⟨wr.heap.size, 1, none⟩ (.int .i64 (resIdx xs[d].ctors[k] i))) w.heap.size 33 #[.int .i64 (d : Int), .int .i64 i]) := KT4.out.same (Below.heap_setCell _ _ _ _ (by show w.heap.size ≠ wr.heap.size; omega))
        have KC1 : Hid (Blk (w4.setCell ⟨wr.heap.size, 1, none⟩ (.int .i64 (resIdx xs[d].ctors[k] i))) (w.heap.size + 2) 31 #[.string xs[d].ctors[k].name, .slice (some ⟨b3, off3, none⟩) xs[d].ctors[k].args.length cap3, .int .i64 xs[d].ctors[k].idx]) := KC4.out.same (Below.heap_setCell _ _ _ _ (by show w.heap.size + 2 ≠ wr.heap.size; omega))
        have hbs : w.heap.size + 1 ≤ (w4.setCell ⟨wr.heap.size, 1, none⟩ (.int .i64 (resIdx xs[d].ctors[k] i))).heap.size := Nat.le_of_lt (Nat.lt_of_le_of_lt (Nat.le_add_right _ 1) KC1.out.lt)
        have hbs3 : w.heap.size + 3 ≤ (w4.setCell ⟨wr.heap.size, 1, none⟩ (.int .i64 (resIdx xs[d].ctors[k] i))).heap.size := KC1.out.lt
        have hrow2 := HN.out
        clear hbx hBx HOx KTx KCx KX k4 hrw hrow0 y1 q0 q1 q2 a0 a1
        generalize hrr : resIdx xs[d].ctors[k] i = rr at *
        have HRR := Lib.hid hrr
        clear hrr
        go_wp2_with (at_builtin; refine Halt.mk ?_)
        refine Halt.of (wpList_push1 (P := Try.prog) rfl _ _ 29 rfl i0 _ 16 Try.underlying29 HI.out HZ0.out HZ1.out HZ2.out rfl (by decide) TyR_len' TyR_mono' (by rfl) HO1.out ⟨xs[d].ctors[k].args[j].d, rr⟩ 33 [.int .i64 (xs[d].ctors[k].args[j].d), .int .i64 (rr)] [] _ (by rfl) (by simp) (by simp [Value.oneCell']) ⟨rfl, rfl⟩ (Under.nil _) (fun _ _ h => by cases h) (by have := argsTo_len (rr) xs[d].ctors[k].args j; unfold maxLen; omega) (by have := argsTo_len (rr) xs[d].ctors[k].args j; omega) hbs ?_)
        intro g cp w3 hown3 hgr3 hat3
        have hrow := HO1.out.row
        have hB3 : Below w.heap.size w w3 := (hB1.alloc hB1.size _).grown hgr3 (by have := hB1.size; simp; omega) (fun g hg => by have := hrow g (mem_rowOf.2 hg); omega)
        have HO3 := Lib.hid hown3
        have KT3 : Hid (Blk w3 w.heap.size 33 #[.int .i64 (d : Int), .int .i64 i]) := (KT1.out.same (Below.heap_alloc _ _ _ KT1.out.lt)).same (hgr3.block _ (by have := KT1.out.lt; simp; omega) (fun e => by have := hrow _ (mem_rowOf.2 e.symm); omega))
        have KC3 : Hid (Blk w3 (w.heap.size + 2) 31 #[.string xs[d].ctors[k].name, .slice (some ⟨b3, off3, none⟩) xs[d].ctors[k].args.length cap3, .int .i64 xs[d].ctors[k].idx]) := (KC1.out.same (Below.heap_alloc _ _ _ KC1.out.lt)).same (hgr3.block _ (by have := KC1.out.lt; simp; omega) (fun e => by have := hrow2 _ (mem_rowOf.2 e.symm); omega))
        have hne3 : ∀ g' ∈ rowOf (.slice (some ⟨g, 0, none⟩) ((argsTo (rr) xs[d].ctors[k].args j).length + 1) cp), g' = w.heap.size + 1 ∨ w.heap.size + 3 ≤ g' := fun g' hg' => by
          rw [rowOf_some, List.mem_singleton] at hg'
          subst hg'
          rcases hat3 with h | h
          · exact hrow2 _ (mem_rowOf.2 h)
          · right; have := hbs3; omega
        have HN3 := Lib.hid hne3
        clear hown3 hgr3 hat3 hrow hrow2 hne3
        go_wp2
        go_roundw
        case rel => exact ⟨j + 1, by omega, by go_num, (by rw [HRR.out, HF2.out]; exact HO3.out), hB3, KT3, KC3, HN3⟩
        case measure => (simp [intOf] <;> omega)
      | false =>
        have HF2 := Lib.hid ((argsTo_succ (resIdx xs[d].ctors[k] i) xs[d].ctors[k].args j hjl).trans (by rw [argTy_no q3]))
        have hB1 := hBx
        have HO1 := HOx
        have KT1 : Hid (Blk (wr.alloc (.cells #[.int .i64 xs[d].ctors[k].args[j].d, .int .i64 xs[d].ctors[k].args[j].i] 33)) w.heap.size 33 #[.int .i64 (d : Int), .int .i64 i]) := KTx
        have KC1 : Hid (Blk (wr.alloc (.cells #[.int .i64 xs[d].ctors[k].args[j].d, .int .i64 xs[d].ctors[k].args[j].i] 33)) (w.heap.size + 2) 31 #[.string xs[d].ctors[k].name, .slice (some ⟨b3, off3, none⟩) xs[d].ctors[k].args.length cap3, .int .i64 xs[d].ctors[k].idx]) := KCx
        have hbs : w.heap.size + 1 ≤ (wr.alloc (.cells #[.int .i64 xs[d].ctors[k].args[j].d, .int .i64 xs[d].ctors[k].args[j].i] 33)).heap.size := Nat.le_of_lt (Nat.lt_of_le_of_lt (Nat.le_add_right _ 1) KC1.out.lt)
        have hbs3 : w.heap.size + 3 ≤ (wr.alloc (.cells #[.int .i64 xs[d].ctors[k].args[j].d, .int .i64 xs[d].ctors[k].args[j].i] 33)).heap.size := KC1.out.lt
        have hrow2 := HN.out
        clear hBx HOx KTx KCx
        go_wp2_with (at_builtin; refine Halt.mk ?_)
        refine Halt.of (wpList_push1 (P := Try.prog) rfl _ _ 29 rfl i0 _ 16 Try.underlying29 HI.out HZ0.out HZ1.out HZ2.out rfl (by decide) TyR_len' TyR_mono' (by rfl) HO1.out ⟨xs[d].ctors[k].args[j].d, xs[d].ctors[k].args[j].i⟩ 33 [.int .i64 (xs[d].ctors[k].args[j].d), .int .i64 (xs[d].ctors[k].args[j].i)] [] _ (by rfl) (by simp) (by simp [Value.oneCell']) ⟨rfl, rfl⟩ (Under.nil _) (fun _ _ h => by cases h) (by have := argsTo_len (resIdx xs[d].ctors[k] i) xs[d].ctors[k].args j; unfold maxLen; omega) (by have := argsTo_len (resIdx xs[d].ctors[k] i) xs[d].ctors[k].args j; omega) hbs ?_)
        intro g cp w3 hown3 hgr3 hat3
        have hrow := HO1.out.row
        have hB3 : Below w.heap.size w w3 := (hB1.alloc hB1.size _).grown hgr3 (by have := hB1.size; simp; omega) (fun g hg => by have := hrow g (mem_rowOf.2 hg); omega)
        have HO3 := Lib.hid hown3
        have KT3 : Hid (Blk w3 w.heap.size 33 #[.int .i64 (d : Int), .int .i64 i]) := (KT1.out.same (Below.heap_alloc _ _ _ KT1.out.lt)).same (hgr3.block _ (by have := KT1.out.lt; simp; omega) (fun e => by have := hrow _ (mem_rowOf.2 e.symm); omega))
        have KC3 : Hid (Blk w3 (w.heap.size + 2) 31 #[.string xs[d].ctors[k].name, .slice (some ⟨b3, off3, none⟩) xs[d].ctors[k].args.length cap3, .int .i64 xs[d].ctors[k].idx]) := (KC1.out.same (Below.heap_alloc _ _ _ KC1.out.lt)).same (hgr3.block _ (by have := KC1.out.lt; simp; omega) (fun e => by have := hrow2 _ (mem_rowOf.2 e.symm); omega))
        have hne3 : ∀ g' ∈ rowOf (.slice (some ⟨g, 0, none⟩) ((argsTo (resIdx xs[d].ctors[k] i) xs[d].ctors[k].args j).length + 1) cp), g' = w.heap.size + 1 ∨ w.heap.size + 3 ≤ g' := fun g' hg' => by
          rw [rowOf_some, List.mem_singleton] at hg'
          subst hg'
          rcases hat3 with h | h
          · exact hrow2 _ (mem_rowOf.2 h)
          · right; have := hbs3; omega
        have HN3 := Lib.hid hne3
        clear hown3 hgr3 hat3 hrow hrow2 hne3
        go_wp2
        go_roundw
        case rel => exact ⟨j + 1, by omega, by go_num, (by rw [HF2.out]; exact HO3.out), hB3, KT3, KC3, HN3⟩
        case measure => (simp [intOf] <;> omega)
    · have hfin : GivesTys w (argsL xs[d].ctors[k] i) (.returned u7) wr := by
        unfold argsL
        have h := HO.out
        rw [argsTo_all _ _ (by omega)] at h
        exact h.tys hB (by omega)
      have HFin := Lib.hid hfin
      clear hfin
      go_wp2
      go_ret
      exact HFin.out
end Go.Proofs.Ytbejcgknjnhdpaa

namespace Go.Proofs.Ytbejcgknjnhdpaa
open Go.RowKit

theorem info_int : (Try.prog.info? 3).map (fun i => (i.zero, i.size, i.bytes)) = some (some (.int .i64 0), 1, 8) := by kernel_rfl

/-- a constructor can make values with an index -/
def fitsB (c : Kt) (i : Int) : Bool := c.idx == 0 || (i == 0 || c.idx == i)
def fitAt (cs : List Kt) (i : Int) (k : Nat) : Bool := match cs[k]? with | some c => fitsB c i | none => false
/-- the constructors that can make values with an index, among the first n -/
def fitTo (cs : List Kt) (i : Int) (n : Nat) : List Int := ((List.range n).filter (fitAt cs i)).map Int.ofNat
def ctorsAt (xs : List Dt) (d : Int) : List Kt := match xs[d.toNat]? with | some x => x.ctors | none => []
def ctorsL (xs : List Dt) (t : Ty) : List Int := if t.d = -1 then [] else fitTo (ctorsAt xs t.d) t.i (ctorsAt xs t.d).length
theorem fitTo_zero (cs : List Kt) (i : Int) : fitTo cs i 0 = [] := rfl
theorem fitTo_succ (cs : List Kt) (i : Int) (n : Nat) (h : n < cs.length) : fitTo cs i (n + 1) = if fitsB cs[n] i then fitTo cs i n ++ [(n : Int)] else fitTo cs i n := by
  unfold fitTo
  rw [List.range_succ, List.filter_append]
  have hf : fitAt cs i n = fitsB cs[n] i := by unfold fitAt; rw [List.getElem?_eq_getElem h]
  cases hb : fitsB cs[n] i <;> simp [hf, hb]
theorem fitTo_yes {cs : List Kt} {i : Int} {n : Nat} (h : n < cs.length) (e : fitsB cs[n] i = true) : fitTo cs i (n + 1) = fitTo cs i n ++ [(n : Int)] := by rw [fitTo_succ cs i n h, if_pos e]
theorem fitTo_no {cs : List Kt} {i : Int} {n : Nat} (h : n < cs.length) (e : fitsB cs[n] i = false) : fitTo cs i (n + 1) = fitTo cs i n := by rw [fitTo_succ cs i n h, if_neg (by simp [e])]
theorem fitTo_len (cs : List Kt) (i : Int) (n : Nat) : (fitTo cs i n).length ≤ n := by
  unfold fitTo
  rw [List.length_map]
  exact Nat.le_trans (List.length_filter_le _ _) (by simp)
theorem ctorsL_int {xs : List Dt} {t : Ty} (h : t.d = -1) : ctorsL xs t = [] := if_pos h
theorem ctorsAt_get {xs : List Dt} {d : Nat} (h : d < xs.length) : ctorsAt xs (d : Int) = xs[d].ctors := by unfold ctorsAt; rw [Int.toNat_natCast, List.getElem?_eq_getElem h]
theorem ctorsL_data {xs : List Dt} {d : Nat} {i : Int} (h : d < xs.length) : ctorsL xs ⟨(d : Int), i⟩ = fitTo xs[d].ctors i xs[d].ctors.length := by
  unfold ctorsL
  rw [if_neg (by show ¬ ((d : Int) = -1); omega)]
  show fitTo (ctorsAt xs (d : Int)) i (ctorsAt xs (d : Int)).length = _
  rw [ctorsAt_get h]
def MadeNats (w : World) (xs : List Int) (e : Ending) (w' : World) : Prop := MadeArr NatR w xs e w'
theorem MadeNats.nil (w : World) : MadeNats w [] (.returned (.slice none 0 0)) w := ⟨_, [], rfl, Below.refl _ _, Arr.nil, Free.nil _, Fresh.nil _ _⟩
theorem Own.nats {w0 w : World} {B : Nat} {E : TypeId} {xs : List Int} {v : Value} (h : Own w B E 1 NatR xs v []) (hb : Below w0.heap.size w0 w) (hB : w0.heap.size ≤ B) : MadeNats w0 xs (.returned v) w :=
  h.gives hb hB (fun b hb => by cases hb) (Free.nil _)
theorem NatR_mono' {w w' : World} (x : Int) (cs : List Value) (F : List Nat) (hk : Kept F w w') (h : NatR w x cs F) : NatR w' x cs F := h
set_option maxRecDepth 100000 in
set_option maxHeartbeats 1600000 in
theorem impl_ctorsOf (xs : List Dt) (t : Ty) (w : World) (v : Value) (F : List Nat) (hx : Arr w (DtR w) xs v F) (hf : Under w.heap.size F) (hw : WorldOK xs) (ht : InWorld xs.length t) :
    Calls Try.prog 35 #[v, .agg #[.int .i64 t.d, .int .i64 t.i]] w (MadeNats w (ctorsL xs t)) := by
  obtain ⟨A, cap, rfl, hc1, hc2⟩ := hx.form
  have HX := Lib.hid hx
  have HF := Lib.hid hf
  clear hx hf
  rcases ht with hd | ⟨d, hd, hdl⟩
  · have hf := Lib.hid (ctorsL_int (xs := xs) hd)
    have t0 : (t.d != -1) = false := by simp [hd]
    clear hd
    go_enter Try.func35, Try.ntmps35
    go_wp2
    go_ret
    rw [hf.out]
    exact ⟨_, [], rfl, (Below.refl _ _).alloc (Nat.le_refl _) _, Arr.nil, Free.nil _, Fresh.nil _ _⟩
  · obtain ⟨t1, t2⟩ := t
    simp only at hd
    subst hd
    have hf := Lib.hid (ctorsL_data (i := t2) hdl)
    have t0 : ((d : Int) != -1) = true := by rw [bne_iff_ne]; omega
    obtain ⟨i0, hi, hz0, hz1, hz2⟩ := info_parts info_int
    have HI := Lib.hid hi
    have HZ0 := Lib.hid hz0
    have HZ1 := Lib.hid hz1
    have HZ2 := Lib.hid hz2
    clear hi hz0 hz1 hz2
    obtain ⟨b, off, rfl⟩ := HX.out.ptr (by omega)
    have hB0 : Below w.heap.size w (w.alloc (.cells #[.int .i64 (d : Int), .int .i64 t2] 33)) := (Below.refl _ _).alloc (Nat.le_refl _) _
    obtain ⟨A1, cap1, G1, hb, c0, c1, HK, HG, hs, hn1, hn2⟩ := ArrDt.at HX.out HF.out hB0 d hdl
    have g1 : (0 : Int) ≤ (d : Int) := by omega
    have g2 : (d : Int) < (xs.length : Int) := by omega
    have HL := Lib.hid (hw.at hdl).hi
    clear c0 hs
    go_enter Try.func35, Try.ntmps35
    go_wp2
    clear c1 hb
    go_loopw [5, 18] (fun ov iv wr => ∃ k : Nat, k ≤ xs[d].ctors.length ∧ iv = .int .i64 k ∧ Hid (Own wr (w.heap.size + 1) 3 1 NatR (fitTo xs[d].ctors t2 k) ov []) ∧ Below w.heap.size w wr ∧ Hid (Blk wr w.heap.size 33 #[.int .i64 (d : Int), .int .i64 t2])) (fun _ iv _ => xs[d].ctors.length - (intOf iv).toNat)
    case atStart => exact ⟨0, Nat.zero_le _, rfl, (show Own _ _ _ _ _ [] _ _ from Own.nil _ _ _ _ _), hB0, Blk.new _ _ _⟩
    case round =>
      clear hB0
      obtain ⟨k, hk, rfl, HO, hB, KT⟩ := hrel
      by_cases hkl : k < xs[d].ctors.length
      · obtain ⟨b2, off2, rfl⟩ := HK.out.ptr (by omega)
        obtain ⟨A3, cap3, G3, hb3, k0, k1, k2, HC, HG3, -, -, -⟩ := ArrKt.rep HK.out HG.out hB k hkl
        have g3 : (0 : Int) ≤ (k : Int) := by omega
        have g4 : (k : Int) < (xs[d].ctors.length : Int) := by omega
        have y1 : wr.cell? ⟨w.heap.size, 1, none⟩ = some (.int .i64 t2) := (KT.out.cell 1).trans (by simp)
        have hy1 := KT.out.lt
        have hb1 : Below wr.heap.size wr (wr.alloc (.cells #[.string xs[d].ctors[k].name, .slice A3 xs[d].ctors[k].args.length cap3, .int .i64 xs[d].ctors[k].idx] 31)) := (Below.refl _ _).alloc (Nat.le_refl _) _
        have hB1 := hB.trans (hb1.mono hB.size)
        have HO1 := Lib.hid (HO.out.below (fun x cs G hk h => NatR_mono _ _ x cs G hk h) hb1)
        have KT1 : Hid (Blk (wr.alloc (.cells #[.string xs[d].ctors[k].name, .slice A3 xs[d].ctors[k].args.length cap3, .int .i64 xs[d].ctors[k].idx] 31)) w.heap.size 33 #[.int .i64 (d : Int), .int .i64 t2]) := KT.out.same (hb1.block _ KT.out.lt)
        have hsz1 : wr.heap.size ≤ (wr.alloc (.cells #[.string xs[d].ctors[k].name, .slice A3 xs[d].ctors[k].args.length cap3, .int .i64 xs[d].ctors[k].idx] 31)).heap.size := hb1.size
        have hz1' : w.heap.size + 1 ≤ wr.heap.size := KT.out.lt
        cases q0 : (t2 == 0) with
        | true =>
          have e1 : fitsB xs[d].ctors[k] t2 = true := by unfold fitsB; rw [q0, Bool.true_or, Bool.or_true]
          have HF2 := Lib.hid (fitTo_yes hkl e1)
          clear e1
          have hlen := fitTo_len xs[d].ctors t2 k
          go_wp2_with (at_builtin; refine Halt.mk ?_)
          refine Halt.of (wpList_push1 (P := Try.prog) rfl _ _ 37 rfl i0 _ 8 Try.underlying37 HI.out HZ0.out HZ1.out HZ2.out rfl Nat.zero_lt_one NatR_len NatR_mono (by rfl) HO1.out (k : Int) 3 [.int .i64 (k : Int)] [] _ (by rfl) (by simp) (by simp [Value.oneCell']) ⟨rfl, rfl⟩ (Under.nil _) (fun _ _ h => by cases h) (by have := HL.out; unfold maxLen; omega) (by have := HL.out; omega) (Nat.le_trans hz1' hsz1) ?_)
          intro g cp w3 hown3 hgr3 hat3
          have hrow := HO1.out.row
          have hB3 : Below w.heap.size w w3 := (hB1.alloc hB1.size _).grown hgr3 (by have := hB1.size; simp; omega) (fun g hg => by have := hrow g (mem_rowOf.2 hg); omega)
          have HO3 := Lib.hid hown3
          have KT3 : Hid (Blk w3 w.heap.size 33 #[.int .i64 (d : Int), .int .i64 t2]) := (KT1.out.same (Below.heap_alloc _ _ _ KT1.out.lt)).same (hgr3.block _ (by have := KT1.out.lt; simp; omega) (fun e => by have := hrow _ (mem_rowOf.2 e.symm); omega))
          have hsz3 := hgr3.size
          clear hown3 hgr3 hat3 hrow hlen
          go_wp2
          go_roundw
          case rel => exact ⟨k + 1, by omega, by go_num, (by rw [HF2.out]; exact HO3.out), hB3, KT3⟩
          case measure => (simp [intOf] <;> omega)
        | false =>
          cases q1 : (xs[d].ctors[k].idx == 0) with
          | true =>
            have e1 : fitsB xs[d].ctors[k] t2 = true := by unfold fitsB; rw [q1, Bool.true_or]
            have HF2 := Lib.hid (fitTo_yes hkl e1)
            clear e1
            have hlen := fitTo_len xs[d].ctors t2 k
            go_wp2_with (at_builtin; refine Halt.mk ?_)
            refine Halt.of (wpList_push1 (P := Try.prog) rfl _ _ 37 rfl i0 _ 8 Try.underlying37 HI.out HZ0.out HZ1.out HZ2.out rfl Nat.zero_lt_one NatR_len NatR_mono (by rfl) HO1.out (k : Int) 3 [.int .i64 (k : Int)] [] _ (by rfl) (by simp) (by simp [Value.oneCell']) ⟨rfl, rfl⟩ (Under.nil _) (fun _ _ h => by cases h) (by have := HL.out; unfold maxLen; omega) (by have := HL.out; omega) (Nat.le_trans hz1' hsz1) ?_)
            intro g cp w3 hown3 hgr3 hat3
            have hrow := HO1.out.row
            have hB3 : Below w.heap.size w w3 := (hB1.alloc hB1.size _).grown hgr3 (by have := hB1.size; simp; omega) (fun g hg => by have := hrow g (mem_rowOf.2 hg); omega)
            have HO3 := Lib.hid hown3
            have KT3 : Hid (Blk w3 w.heap.size 33 #[.int .i64 (d : Int), .int .i64 t2]) := (KT1.out.same (Below.heap_alloc _ _ _ KT1.out.lt)).same (hgr3.block _ (by have := KT1.out.lt; simp; omega) (fun e => by have := hrow _ (mem_rowOf.2 e.symm); omega))
            have hsz3 := hgr3.size
            clear hown3 hgr3 hat3 hrow hlen
            go_wp2
            go_roundw
            case rel => exact ⟨k + 1, by omega, by go_num, (by rw [HF2.out]; exact HO3.out), hB3, KT3⟩
            case measure => (simp [intOf] <;> omega)
          | false =>
            cases q2 : (xs[d].ctors[k].idx == t2) with
            | true =>
              have e1 : fitsB xs[d].ctors[k] t2 = true := by unfold fitsB; rw [q0, q1, q2]; rfl
              have HF2 := Lib.hid (fitTo_yes hkl e1)
              clear e1
              have hlen := fitTo_len xs[d].ctors t2 k
              go_wp2_with (at_builtin; refine Halt.mk ?_)
              refine Halt.of (wpList_push1 (P := Try.prog) rfl _ _ 37 rfl i0 _ 8 Try.underlying37 HI.out HZ0.out HZ1.out HZ2.out rfl Nat.zero_lt_one NatR_len NatR_mono (by rfl) HO1.out (k : Int) 3 [.int .i64 (k : Int)] [] _ (by rfl) (by simp) (by simp [Value.oneCell']) ⟨rfl, rfl⟩ (Under.nil _) (fun _ _ h => by cases h) (by have := HL.out; unfold maxLen; omega) (by have := HL.out; omega) (Nat.le_trans hz1' hsz1) ?_)
              intro g cp w3 hown3 hgr3 hat3
              have hrow := HO1.out.row
              have hB3 : Below w.heap.size w w3 := (hB1.alloc hB1.size _).grown hgr3 (by have := hB1.size; simp; omega) (fun g hg => by have := hrow g (mem_rowOf.2 hg); omega)
              have HO3 := Lib.hid hown3
              have KT3 : Hid (Blk w3 w.heap.size 33 #[.int .i64 (d : Int), .int .i64 t2]) := (KT1.out.same (Below.heap_alloc _ _ _ KT1.out.lt)).same (hgr3.block _ (by have := KT1.out.lt; simp; omega) (fun e => by have := hrow _ (mem_rowOf.2 e.symm); omega))
              have hsz3 := hgr3.size
              clear hown3 hgr3 hat3 hrow hlen
              go_wp2
              go_roundw
              case rel => exact ⟨k + 1, by omega, by go_num, (by rw [HF2.out]; exact HO3.out), hB3, KT3⟩
              case measure => (simp [intOf] <;> omega)
            | false =>
              have e1 : fitsB xs[d].ctors[k] t2 = false := by unfold fitsB; rw [q0, q1, q2]; rfl
              have HF2 := Lib.hid (fitTo_no hkl e1)
              clear e1
              go_wp2
              go_roundw
              case rel => exact ⟨k + 1, by omega, by go_num, (by rw [HF2.out]; exact HO1.out), hB1, KT1⟩
              case measure => (simp [intOf] <;> omega)
      · have hfin : MadeNats w (ctorsL xs ⟨(d : Int), t2⟩) (.returned u5) wr := by
          rw [hf.out]
          have h := HO.out
          rw [show k = xs[d].ctors.length by omega] at h
          exact h.nats hB (by omega)
        have HFin := Lib.hid hfin
        clear hfin
        go_wp2
        go_ret
        exact HFin.out
end Go.Proofs.Ytbejcgknjnhdpaa

namespace Go.Proofs.Ytbejcgknjnhdpaa
open Go.RowKit

set_option maxRecDepth 100000 in
set_option maxHeartbeats 1600000 in
theorem ctorOk_closure (A : Option Addr) (n cap : Nat) (t : Ty) (w : World) (g : Nat) (hn : n ≤ 9223372036854775807) (hg : w.cell? ⟨g, 0, none⟩ = some (.slice A n cap)) (hgl : g < w.heap.size) :
    Calls Try.prog 55 #[.agg #[.int .i64 t.d, .int .i64 t.i], .pointer (some ⟨g, 0, none⟩)] w fun e w' => e = .returned (.bool (!argOkB n t)) ∧ Below w.heap.size w w' := by
  have HN := Lib.hid hn
  clear hn
  go_enter Try.func55, Try.ntmps55
  go_wp2_with fail
  obtain ⟨W2, hW2⟩ : ∃ W2, W2 = w.alloc (.cells #[.int .i64 t.d, .int .i64 t.i] 33) := ⟨_, rfl⟩
  have hB2 : Below w.heap.size w W2 := by rw [hW2]; exact (Below.refl _ _).alloc (Nat.le_refl _) _
  rw [← hW2]
  clear hW2
  refine (impl_argOk A n cap t W2 HN.out).mono ?_
  rintro e w' ⟨rfl, hB'⟩
  have hB3 := hB2.trans (hB'.mono hB2.size)
  generalize hbb : argOkB n t = bb
  have HBB := Lib.hid hbb
  clear hbb
  go_wp2
  go_ret
  exact ⟨ret_bool (by rw [HBB.out]), hB3⟩

set_option maxRecDepth 100000 in
set_option maxHeartbeats 1600000 in
theorem IndexFunc_Ty (A0 : Option Addr) (n cap0 : Nat) (xs : List Ty) (r : Int) (hr : FirstAt (fun t => !argOkB n t) xs r) (w : World) (x : Value) (F : List Nat) (g : Nat) (hn : n ≤ 9223372036854775807) (hg : w.cell? ⟨g, 0, none⟩ = some (.slice A0 n cap0)) (hgl : g < w.heap.size) (hx : Arr w (TyR w) xs x F) (hF : Under w.heap.size F) :
    Calls Try.prog 71 #[x, .func (.func 55) #[] #[.pointer (some ⟨g, 0, none⟩)]] w fun e w' => e = .returned (.int .i64 r) ∧ Below w.heap.size w w' := by
  have HX := Lib.hid hx
  obtain ⟨A, cap, rfl, hc1, hc2⟩ := hx.form
  clear hx
  have HF := Lib.hid hF
  clear hF
  have HG0 := Lib.hid hg
  have HN := Lib.hid hn
  have HR := Lib.hid hr
  clear hg hn hr
  go_enter Try.func71, Try.ntmps71
  go_wp2
  go_loopw [8] (fun i wr => ∃ k : Nat, k ≤ xs.length ∧ i = .int .i64 k ∧ Hid (∀ j (hj : j < xs.length), j < k → (!argOkB n xs[j]) = false) ∧ Below w.heap.size w wr) (fun i _ => xs.length - (intOf i).toNat)
  case atStart => exact ⟨0, Nat.zero_le _, rfl, fun j hj h => by omega, Below.refl _ _⟩
  case round =>
    obtain ⟨k, hk, rfl, HT, hB⟩ := hrel
    by_cases hlt : k < xs.length
    · have hi0 : (0 : Int) ≤ (k : Int) := by omega
      have hi1 : (k : Int) < (xs.length : Int) := by omega
      obtain ⟨b, off, cs, G, rfl, hb, hcs, hv, -⟩ := HX.out.get TyR_len hlt
      have hbl := HF.out b hb
      have hcs := hcs.same (hB.block b hbl)
      obtain rfl := TyR_form hv
      have c0 := hcs 0 _ rfl
      have c1 := hcs 1 _ rfl
      simp only [Nat.add_zero] at c0
      clear hcs hv hb
      have hbw := Nat.lt_of_lt_of_le hbl hB.size
      go_wp2_with fail
      refine (ctorOk_closure A0 n cap0 xs[k] wr g HN.out ((hB.cell (p := ⟨g, 0, none⟩) hgl).trans HG0.out) (Nat.lt_of_lt_of_le hgl hB.size)).mono ?_
      rintro e w' ⟨rfl, hB'⟩
      have hB3 := hB.trans (hB'.mono hB.size)
      cases hq : argOkB n xs[k] with
      | false =>
        have hf : Hid (r = (k : Int)) := HR.out.hit hlt (by simp [hq]) (fun j hj h => HT.out j hj h)
        clear hq
        go_wp2
        go_ret
        exact ⟨ret_int hf.out.symm, hB3⟩
      | true =>
        have hT2 : Hid (∀ j (hj : j < xs.length), j < k + 1 → (!argOkB n xs[j]) = false) := fun j hj h => by
          rcases Nat.lt_or_ge j k with h2 | h2
          · exact HT.out j hj h2
          · obtain rfl : j = k := by omega
            rw [hq]; rfl
        clear hq
        go_wp2
        go_roundw
        case rel => exact ⟨k + 1, by omega, by go_num, hT2, hB3⟩
        case measure => simp [intOf]; omega
    · have hf : Hid (r = -1) := HR.out.miss (fun j hj => HT.out j hj (by omega))
      go_wp2
      go_ret
      exact ⟨ret_int hf.out.symm, hB⟩

set_option maxRecDepth 100000 in
set_option maxHeartbeats 1600000 in
theorem ContainsFunc_Ty (A0 : Option Addr) (n cap0 : Nat) (xs : List Ty) (w : World) (x : Value) (F : List Nat) (g : Nat) (hn : n ≤ 9223372036854775807) (hg : w.cell? ⟨g, 0, none⟩ = some (.slice A0 n cap0)) (hgl : g < w.heap.size) (hx : Arr w (TyR w) xs x F) (hF : Under w.heap.size F) :
    Calls Try.prog 54 #[x, .func (.func 55) #[] #[.pointer (some ⟨g, 0, none⟩)]] w fun e w' => e = .returned (.bool (xs.any fun t => !argOkB n t)) ∧ Below w.heap.size w w' := by
  obtain ⟨r, hr⟩ := FirstAt.ex (fun t => !argOkB n t) xs
  have hf : Hid ((xs.any fun t => !argOkB n t) = decide (0 ≤ r)) := hr.any
  have hcall := IndexFunc_Ty A0 n cap0 xs r hr w x F g hn hg hgl hx hF
  obtain ⟨A, cap, rfl, hc1, hc2⟩ := hx.form
  have HC := Lib.hid hcall
  clear hcall hr hx hF hn hg
  go_enter Try.func54, Try.ntmps54
  go_wp2_with fail
  refine HC.out.mono ?_
  rintro e w' ⟨rfl, hB'⟩
  go_wp2
  go_ret
  exact ⟨ret_bool hf.out.symm, hB'⟩
theorem any_not_all {α : Type} (p : α → Bool) (l : List α) : (!(l.any fun t => !p t)) = l.all p := by
  induction l with
  | nil => rfl
  | cons x xs ih => rw [List.any_cons, List.all_cons, Bool.not_or, ih, Bool.not_not]

set_option maxRecDepth 100000 in
set_option maxHeartbeats 1600000 in
theorem impl_ctorOk (A0 : Option Addr) (n cap0 : Nat) (c : Kt) (w : World) (cs : List Value) (F : List Nat) (hn : n ≤ 9223372036854775807) (hv : KtR w c cs F) (hF : Under w.heap.size F) :
    Calls Try.prog 30 #[.slice A0 n cap0, .agg cs.toArray] w fun e w' => e = .returned (.bool (ctorOkB n c)) ∧ Below w.heap.size w w' := by
  obtain ⟨kv, rfl, ha, hs⟩ := hv
  have HX := Lib.hid ha
  obtain ⟨A, cap, rfl, hc1, hc2⟩ := ha.form
  clear ha
  have HF := Lib.hid hF
  have HS := Lib.hid hs
  have HN := Lib.hid hn
  clear hF hs hn
  go_enter Try.func30, Try.ntmps30
  go_wp2_with fail
  obtain ⟨W2, hW2⟩ : ∃ W2, W2 = (w.alloc (.cells #[.slice A0 n cap0] 23)).alloc (.cells #[.string c.name, .slice A c.args.length cap, .int .i64 c.idx] 31) := ⟨_, rfl⟩
  have hB2 : Below w.heap.size w W2 := by rw [hW2]; exact ((Below.refl _ _).alloc (Nat.le_refl _) _).alloc (by simp) _
  have k1 : Blk W2 w.heap.size 23 #[.slice A0 n cap0] := by rw [hW2]; exact (Blk.new w _ _).same (Below.heap_alloc _ _ _ (by simp))
  have k2 : Blk W2 (w.heap.size + 1) 31 #[.string c.name, .slice A c.args.length cap, .int .i64 c.idx] := by rw [hW2]; have := Blk.new (w.alloc (.cells #[.slice A0 n cap0] 23)) 31 #[.string c.name, .slice A c.args.length cap, .int .i64 c.idx]; simpa using this
  rw [← hW2]
  clear hW2
  have x0 : W2.cell? ⟨w.heap.size, 0, none⟩ = some (.slice A0 n cap0) := (k1.cell 0).trans (by simp)
  have x1 : W2.cell? ⟨w.heap.size + 1, 1, none⟩ = some (.slice A c.args.length cap) := (k2.cell 1).trans (by simp)
  have x2 : W2.cell? ⟨w.heap.size + 1, 2, none⟩ = some (.int .i64 c.idx) := (k2.cell 2).trans (by simp)
  have hlt0 := k1.lt
  clear k1 k2
  refine (impl_NameValid c.name W2 (by have := HS.out; unfold maxLen; omega)).mono ?_
  rintro e w' ⟨rfl, rfl⟩
  have h0 : ctorOkB n c = (nameOk c.name.data.toList && (decide ((c.args.length : Int) ≤ 3) && (withinB c.idx 0 3 && c.args.all (argOkB n)))) := rfl
  cases hn : nameOk c.name.data.toList with
  | false =>
    have hf : Hid (ctorOkB n c = false) := by rw [h0, hn]; rfl
    clear hn h0
    go_wp2
    go_ret
    exact ⟨ret_bool hf.out.symm, hB2⟩
  | true =>
    rw [hn, Bool.true_and] at h0
    clear hn
    cases hl : decide ((c.args.length : Int) ≤ 3) with
    | false =>
      have hf : Hid (ctorOkB n c = false) := by rw [h0, hl]; rfl
      clear h0
      go_wp2
      go_ret
      exact ⟨ret_bool hf.out.symm, hB2⟩
    | true =>
      rw [hl, Bool.true_and] at h0
      have H0 := Lib.hid h0
      clear h0
      go_wp2_with fail
      refine (impl_within c.idx 0 3 W2).mono ?_
      rintro e w' ⟨rfl, rfl⟩
      cases hi : withinB c.idx 0 3 with
      | false =>
        have hf : Hid (ctorOkB n c = false) := by rw [H0.out, hi]; rfl
        clear hi
        go_wp2
        go_ret
        exact ⟨ret_bool hf.out.symm, hB2⟩
      | true =>
        have hf : Hid (ctorOkB n c = !(c.args.any fun t => !argOkB n t)) := by rw [H0.out, hi, Bool.true_and, any_not_all]; rfl
        clear hi
        go_wp2_with fail
        refine (ContainsFunc_Ty A0 n cap0 c.args W2 _ F w.heap.size HN.out x0 hlt0 (ArrTy.below HX.out hB2 HF.out) (HF.out.mono hB2.size)).mono ?_
        rintro e w' ⟨rfl, hB'⟩
        have hB3 := hB2.trans (hB'.mono hB2.size)
        generalize hbb : (c.args.any fun t => !argOkB n t) = bb
        have HBB := Lib.hid hbb
        clear hbb
        go_wp2
        go_ret
        exact ⟨ret_bool (by rw [hf.out, HBB.out]), hB3⟩
end Go.Proofs.Ytbejcgknjnhdpaa

namespace Go.Proofs.Ytbejcgknjnhdpaa
open Go.RowKit

theorem plainElem_bool_inv {H : Type} {P : Program} {e : TypeId} (he : P.underlying e = some .bool) {v : Value} {z : DataW H × List MemPlace} (h : Go.plainElem P e v = some z) : ∃ a, v = .bool a ∧ z = (.lit (.bool a), []) := by
  unfold Go.plainElem at h
  rw [he] at h
  cases v <;> simp at h
  exact ⟨_, rfl, h.symm⟩

theorem lookup_bool {H : Type} {P : Program} {k t e : TypeId} {w : World} {b n : Nat} {D : DataW H} (h : w.ownsMap P k (Go.plainElem P e) b n D) (K : Go.Maps.Keyed P k) (ht : P.underlying t = some (.map k e)) (he : P.underlying e = some .bool) (hz : (zeroValue e).run P w = .ok (.bool false) w)
    {key : Value} {kl : Lit} (hkey : Go.keyOf P k key = some kl) : ∃ c, (Instr.lookup t (.map (some b)) key false).run P w = .ok (.bool c) w ∧ D.atKey kl (.lit (.bool false)) = .lit (.bool c) := by
  obtain ⟨v, ps, hrun, hv⟩ := h.lookup K ht hz (plainElem_bool he false) hkey
  obtain ⟨c, rfl, hc⟩ := plainElem_bool_inv he hv
  simp only [Prod.mk.injEq] at hc
  exact ⟨c, hrun, hc.1⟩
end Go.Proofs.Ytbejcgknjnhdpaa

namespace Go.Proofs.Ytbejcgknjnhdpaa
open Go.RowKit

open Go.Maps
def strLit (s : ByteArray) : Lit := .string s.data.toList
theorem strLit_same (a b : ByteArray) : (strLit a).sameKey (strLit b) = (a.toList == b.toList) := by
  rw [ByteArray.toList_eq, ByteArray.toList_eq]; rfl
theorem any_same (names : List ByteArray) (s : ByteArray) : ((names.map strLit).any fun x => x.sameKey (strLit s)) = nameIn names s := by
  induction names with
  | nil => rfl
  | cons x xs ih => rw [List.map_cons, List.any_cons, ih, strLit_same]; rfl
theorem isKey_str (s : ByteArray) : WideAt.IsKeyLit (strLit s) := trivial
theorem atKey_setOf {H : Type} (u z : DataW H) (k : Lit) (acc : List Lit) (ha : ∀ x ∈ acc, WideAt.IsKeyLit x) (hk : WideAt.IsKeyLit k) : (setOf u acc).atKey k z = if acc.any (fun x => x.sameKey k) then u else z := by
  cases h : acc.any (fun x => x.sameKey k) with
  | false =>
    rw [if_neg (by simp)]
    exact atKey_of_not_has ((has_setOf u k acc ha).trans h) z
  | true =>
    rw [if_pos rfl]
    revert h
    have key : ∀ n (acc : List Lit), acc.length = n → (∀ x ∈ acc, WideAt.IsKeyLit x) → acc.any (fun x => x.sameKey k) = true → (setOf u acc).atKey k z = u := by
      intro n
      induction n with
      | zero => intro acc hl _ h; rw [List.length_eq_zero_iff.1 hl] at h; simp at h
      | succ n ih =>
        intro acc hl ha h
        obtain ⟨l, x, rfl⟩ : ∃ l x, acc = l ++ [x] := ⟨acc.dropLast, acc.getLast (by intro e; rw [e] at hl; simp at hl), (List.dropLast_concat_getLast _).symm⟩
        rw [setOf_snoc]
        have hl' : ∀ y ∈ l, WideAt.IsKeyLit y := fun y hy => ha y (List.mem_append.2 (.inl hy))
        by_cases e : k = x
        · subst e
          exact atKey_put_same (tidy_setOf u l hl').isMap hk u z
        · rw [atKey_put_other e]
          refine ih l (by simpa using hl) hl' ?_
          rw [List.any_append, Bool.or_eq_true] at h
          rcases h with h | h
          · exact h
          · simp only [List.any_cons, List.any_nil, Bool.or_false] at h
            exact absurd ((WideAt.sameKey_iff hk).1 h).symm e
    exact key _ acc rfl ha

theorem lawS : Maps.Keyed Try.prog 9 := string_keyed Try.underlying9
theorem zeroB (w : World) : (zeroValue 4).run Try.prog w = .ok (.bool false) w := by kernel_rfl

/-- block b is a map[string]bool of the call's own whose keys are these names -/
def OwnsNames (w : World) (b : Nat) (names : List ByteArray) : Prop := w.ownsMap (H := Unit) Try.prog 9 (Go.plainElem Try.prog 4) b names.length (setOf (.lit (.bool true)) (names.map strLit))
theorem OwnsNames.made (w : World) : OwnsNames (w.alloc (.map #[] 0)) w.heap.size [] := World.ownsMap_made w _ _ _
theorem OwnsNames.kept {w w' : World} {b : Nat} {names : List ByteArray} {row : Option Nat} (h : OwnsNames w b names) (hg : w.grownBy w' row) (hne : some b ≠ row) : OwnsNames w' b names := World.ownsMap.kept h hg hne
theorem OwnsNames.below {w w' : World} {b : Nat} {names : List ByteArray} (h : OwnsNames w b names) (hb : Below w.heap.size w w') : OwnsNames w' b names :=
  h.kept (row := none) ⟨hb.os, hb.tape, hb.output, hb.size, fun k hk _ => hb.block k hk⟩ (by simp)
theorem OwnsNames.alloc {w : World} {b : Nat} {names : List ByteArray} (h : OwnsNames w b names) (o : Obj) : OwnsNames (w.alloc o) b names := World.ownsMap.alloc h o
theorem OwnsNames.lt {w : World} {b : Nat} {names : List ByteArray} (h : OwnsNames w b names) : b < w.heap.size := World.ownsMap.lt h
theorem keyS (s : ByteArray) (hs : s.size ≤ maxLen) : Go.keyOf Try.prog 9 (.string s) = some (strLit s) := Go.WideMaps.keyOf_string_mk Try.underlying9 hs
theorem OwnsNames.look {w : World} {b : Nat} {names : List ByteArray} (h : OwnsNames w b names) (s : ByteArray) (hs : s.size ≤ maxLen) : (Instr.lookup 51 (.map (some b)) (.string s) false).run Try.prog w = .ok (.bool (nameIn names s)) w := by
  obtain ⟨c, hr, hc⟩ := lookup_bool h lawS Try.underlying51 Try.underlying4 (zeroB w) (keyS s hs)
  rw [hr, atKey_setOf _ _ _ _ (fun x hx => by obtain ⟨y, -, rfl⟩ := List.mem_map.1 hx; exact isKey_str y) (isKey_str s), any_same] at *
  cases hn : nameIn names s <;> rw [hn] at hc
  · rw [if_neg (by simp)] at hc; cases hc; rfl
  · rw [if_pos rfl] at hc; cases hc; rfl
theorem OwnsNames.put {w : World} {b : Nat} {names : List ByteArray} (h : OwnsNames w b names) (s : ByteArray) (w' : World) (h' : w'.ownsMap (H := Unit) Try.prog 9 (Go.plainElem Try.prog 4) b (names.length + 1) ((setOf (.lit (.bool true)) (names.map strLit)).put (strLit s) (.lit (.bool true)))) : OwnsNames w' b (names ++ [s]) := by
  unfold OwnsNames
  rw [List.map_append, List.map_cons, List.map_nil, setOf_snoc, List.length_append]
  exact h'
theorem OwnsNames.add {w : World} {b : Nat} {names : List ByteArray} (h : OwnsNames w b names) (hn : names.length < 1000000) (s : ByteArray) (hs : s.size ≤ maxLen) :
    ∃ w', (Instr.mapUpdate 51 (.map (some b)) (.string s) (.bool true)).run Try.prog w = .ok () w' ∧ OwnsNames w' b (names ++ [s]) ∧ w.grownBy w' (some b) := by
  obtain ⟨w', hr, h1, h2⟩ := World.ownsMap.update h lawS Try.underlying51 (by unfold maxLen; omega) (keyS s hs) (plainElem_bool Try.underlying4 true)
  exact ⟨w', hr, h.put s w' h1, h2⟩
theorem ctorNames_len (xs : List Dt) (h : ∀ x ∈ xs, x.ctors.length ≤ 4) : (ctorNames xs).length ≤ 4 * xs.length := by
  induction xs with
  | nil => simp [ctorNames]
  | cons x xs ih =>
    have h1 := h x (by simp)
    have h2 := ih fun y hy => h y (by simp [hy])
    simp only [ctorNames, List.flatMap_cons, List.length_append, List.length_map, List.length_cons] at h2 ⊢
    omega
theorem dname_one {s : ByteArray} (h : s.size = 1) (p : 0 < s.size) : dnameOk s.data.toList = (bigB (s[0]'p) && !(s.toList == [73])) := by
  rw [ByteArray.toList_eq, one_byte s h]
  show (bigB (s[0]'p) && !(s[0] == 73)) = _
  congr 2
  simp
theorem dname_not {s : ByteArray} (h : s.size ≠ 1) : dnameOk s.data.toList = false := by
  have hl : s.data.toList.length ≠ 1 := by simpa using h
  generalize s.data.toList = l at *
  match l, hl with
  | [], _ => rfl
  | [c], hl => simp at hl
  | _ :: _ :: _, _ => rfl

set_option maxRecDepth 100000 in
set_option maxHeartbeats 1600000 in
theorem impl_WorldValid (xs : List Dt) (w : World) (v : Value) (F : List Nat) (hx : Arr w (DtR w) xs v F) (hf : Under w.heap.size F) :
    Calls Try.prog 11 #[v] w fun e w' => e = .returned (.bool (worldOk xs)) ∧ Below w.heap.size w w' := by
  obtain ⟨A, cap, rfl, hc1, hc2⟩ := hx.form
  have hn : xs.length ≤ 9223372036854775807 := by omega
  have HX := Lib.hid hx
  have HF := Lib.hid hf
  have HN := Lib.hid hn
  clear hx hf hn
  by_cases h4 : xs.length ≤ 4
  · have H0 := Lib.hid (WInv.zero h4)
    have hmm := @run_makeMap Try.prog
    go_enter Try.func11, Try.ntmps11
    go_wp2
    clear hmm
    have HM0 : Hid (OwnsNames ((w.alloc (.map #[] 0)).alloc (.map #[] 0)) w.heap.size (ctorNames (xs.take 0))) := (OwnsNames.made w).alloc _
    have HD0 : Hid (OwnsNames ((w.alloc (.map #[] 0)).alloc (.map #[] 0)) (w.heap.size + 1) ((xs.take 0).map Dt.name)) := by
      have := OwnsNames.made (w.alloc (.map #[] 0))
      rwa [World.size_alloc] at this
    go_loopw [16] (fun iv wr => ∃ d : Nat, d ≤ xs.length ∧ iv = .int .i64 d ∧ Hid (WInv xs d) ∧ Below w.heap.size w wr ∧ Hid (OwnsNames wr (w.heap.size + 1) ((xs.take d).map Dt.name)) ∧ Hid (OwnsNames wr w.heap.size (ctorNames (xs.take d))) ∧ Hid (∀ x ∈ xs.take d, x.ctors.length ≤ 4) ∧ w.heap.size + 1 < wr.heap.size) (fun iv _ => xs.length - (intOf iv).toNat)
    case atStart => exact ⟨0, Nat.zero_le _, rfl, H0, ((Below.refl _ _).alloc (Nat.le_refl _) _).alloc (by simp) _, HD0, HM0, fun x hx => by simp at hx, by simp⟩
    case round =>
      obtain ⟨d, hd, rfl, HW, hB, HD, HM, H4, hz⟩ := hrel
      by_cases hlt : d < xs.length
      · obtain ⟨b, off, rfl⟩ := HX.out.ptr (by omega)
        obtain ⟨A1, cap1, G1, hb, c0, c1, HK, HG, hs, hn1, hn2⟩ := ArrDt.at HX.out HF.out hB d hlt
        have g1 : (0 : Int) ≤ (d : Int) := by omega
        have g2 : (d : Int) < (xs.length : Int) := by omega
        have hsm : xs[d].name.size ≤ maxLen := by unfold maxLen; exact hs
        have HS := Lib.hid hsm
        clear hs hsm
        have hlk := (HD.out.alloc (.cells #[.string xs[d].name, .slice A1 xs[d].ctors.length cap1] 28)).look xs[d].name HS.out
        by_cases h1 : xs[d].name.size = 1
        · have t1 : ((xs[d].name.size : Int) != 1) = false := by simp [h1]
          have p0 : 0 < xs[d].name.size := by omega
          have hdn := dname_one h1 p0
          clear h1
          cases hlo : decide ((65 : Int) ≤ (xs[d].name[0].toNat : Int)) with
          | false =>
            have t2 : decide ((xs[d].name[0].toNat : Int) < 65) = true := by simp at hlo ⊢; omega
            have hf := Lib.hid (HW.out.bad1 hlt (by rw [hdn]; unfold bigB; rw [hlo]; rfl))
            clear hdn hlo hlk
            go_wp2
            go_ret
            exact ⟨ret_bool hf.out.symm, hB.alloc hB.size _⟩
          | true =>
            have t2 : decide ((xs[d].name[0].toNat : Int) < 65) = false := by simp at hlo ⊢; omega
            cases hhi : decide ((xs[d].name[0].toNat : Int) ≤ 90) with
            | false =>
              have t3 : decide ((xs[d].name[0].toNat : Int) > 90) = true := by simp at hhi ⊢; omega
              have hf := Lib.hid (HW.out.bad1 hlt (by rw [hdn]; unfold bigB; rw [hlo, hhi]; rfl))
              clear hdn hlo hhi hlk
              go_wp2
              go_ret
              exact ⟨ret_bool hf.out.symm, hB.alloc hB.size _⟩
            | true =>
              have t3 : decide ((xs[d].name[0].toNat : Int) > 90) = false := by simp at hhi ⊢; omega
              have hbig : bigB xs[d].name[0] = true := by unfold bigB; rw [hlo, hhi]; rfl
              clear hlo hhi
              rw [hbig, Bool.true_and] at hdn
              clear hbig
              cases t4 : (xs[d].name.toList == [73]) with
              | true =>
                have hf := Lib.hid (HW.out.bad1 hlt (by rw [hdn, t4]; rfl))
                clear hdn hlk
                go_wp2
                go_ret
                exact ⟨ret_bool hf.out.symm, hB.alloc hB.size _⟩
              | false =>
                rw [t4] at hdn
                have HDN := Lib.hid hdn
                clear hdn
                cases e3 : nameIn ((xs.take d).map Dt.name) xs[d].name with
                | true =>
                  have hf := Lib.hid (HW.out.bad3 hlt e3)
                  rw [e3] at hlk
                  clear e3
                  go_wp2
                  go_ret
                  exact ⟨ret_bool hf.out.symm, hB.alloc hB.size _⟩
                | false =>
                  rw [e3] at hlk
                  have HE3 := Lib.hid e3
                  clear e3
                  cases e4 : withinB (xs[d].ctors.length : Int) 1 4 with
                  | false =>
                    have hf := Lib.hid (HW.out.bad2 hlt e4)
                    have HE4 := Lib.hid e4
                    clear e4
                    go_wp2_with fail
                    refine (impl_within (xs[d].ctors.length : Int) 1 4 _).mono ?_
                    rintro e w2 ⟨rfl, rfl⟩
                    rw [HE4.out]
                    go_wp2
                    go_ret
                    exact ⟨ret_bool hf.out.symm, hB.alloc hB.size _⟩
                  | true =>
                    have HK0 := Lib.hid (HW.out.goI hlt HDN.out e4 HE3.out)
                    have h5 : xs[d].ctors.length ≤ 4 := by have := (withinB_iff _ _ _).1 e4; omega
                    have H5 := Lib.hid h5
                    have HE4 := Lib.hid e4
                    clear e4 h5
                    obtain ⟨w2, hrun2, hm2, hg2⟩ := (HD.out.alloc (.cells #[.string xs[d].name, .slice A1 xs[d].ctors.length cap1] 28)).add (by rw [List.length_map, List.length_take]; omega) xs[d].name HS.out
                    have k2 := Blk.new wr 28 #[.string xs[d].name, .slice A1 xs[d].ctors.length cap1]
                    have k3 := k2.same (hg2.block _ k2.lt (by have := HD.out.lt; simp; omega))
                    have x1 : w2.cell? ⟨wr.heap.size, 1, none⟩ = some (.slice A1 xs[d].ctors.length cap1) := (k3.cell 1).trans (by simp)
                    have hx1 := k3.lt
                    clear k2 k3
                    have hBa : Below w.heap.size w (wr.alloc (.cells #[.string xs[d].name, .slice A1 xs[d].ctors.length cap1] 28)) := hB.alloc hB.size _
                    have hB3 := hBa.grown hg2 hBa.size (fun _ h => by cases h; omega)
                    have HM3 : Hid (OwnsNames w2 w.heap.size (ctorNames (xs.take d) ++ (xs[d].ctors.take 0).map Kt.name)) := by
                      rw [List.take_zero, List.map_nil, List.append_nil]
                      exact (HM.out.alloc _).kept hg2 (by simp)
                    have HD3 : Hid (OwnsNames w2 (w.heap.size + 1) ((xs.take (d + 1)).map Dt.name)) := by
                      rw [take_snoc' xs d hlt, List.map_append]; exact hm2
                    have hz3 : w.heap.size + 1 < w2.heap.size := by have := hg2.size; simp at this; omega
                    clear hm2 hg2 hBa HD HM hz
                    go_wp2_with fail
                    refine (impl_within (xs[d].ctors.length : Int) 1 4 _).mono ?_
                    rintro e w2' ⟨rfl, rfl⟩
                    rw [HE4.out]
                    go_wp2
                    clear x1 hx1 hrun2 hlk t1 t2 t3 t4 c0 c1
                    obtain ⟨wo, hwo⟩ : ∃ wo : World, wo = w2 := ⟨_, rfl⟩
                    go_loopw [60] (fun jv ws => ∃ k : Nat, k ≤ xs[d].ctors.length ∧ jv = .int .i64 k ∧ Hid (KInvI xs d hlt k) ∧ Below w.heap.size w ws ∧ Hid (OwnsNames ws (w.heap.size + 1) ((xs.take (d + 1)).map Dt.name)) ∧ Hid (OwnsNames ws w.heap.size (ctorNames (xs.take d) ++ (xs[d].ctors.take k).map Kt.name)) ∧ w.heap.size + 1 < ws.heap.size) (fun jv _ => xs[d].ctors.length - (intOf jv).toNat)
                    case atStart => exact ⟨0, Nat.zero_le _, rfl, HK0, hB3, HD3, HM3, hz3⟩
                    case round =>
                      clear hwo hz3 hB3 hB
                      obtain ⟨k, hk, rfl, HKI, hB, HD, HM, hz⟩ := hrel
                      by_cases hkl : k < xs[d].ctors.length
                      · obtain ⟨b2, off2, rfl⟩ := HK.out.ptr (by omega)
                        obtain ⟨A3, cap3, G3, hb3, k0, k1, k2, HC, HG3, hs3, -, -⟩ := ArrKt.rep HK.out HG.out hB k hkl
                        have g3 : (0 : Int) ≤ (k : Int) := by omega
                        have g4 : (k : Int) < (xs[d].ctors.length : Int) := by omega
                        have HS3 := Lib.hid hs3
                        clear hs3
                        go_wp2_with fail
                        obtain ⟨W4, hW4⟩ : ∃ W4, W4 = wr.alloc (.cells #[.string xs[d].ctors[k].name, .slice A3 xs[d].ctors[k].args.length cap3, .int .i64 xs[d].ctors[k].idx] 31) := ⟨_, rfl⟩
                        have hb4 : Below wr.heap.size wr W4 := by rw [hW4]; exact (Below.refl _ _).alloc (Nat.le_refl _) _
                        have k4 : Blk W4 wr.heap.size 31 #[.string xs[d].ctors[k].name, .slice A3 xs[d].ctors[k].args.length cap3, .int .i64 xs[d].ctors[k].idx] := by rw [hW4]; exact Blk.new _ _ _
                        rw [← hW4]
                        clear hW4
                        have hB4 := hB.trans (hb4.mono hB.size)
                        refine (impl_ctorOk _ xs.length cap xs[d].ctors[k] W4 _ _ HN.out (HC.out.below hB4 HG3.out) (HG3.out.mono hB4.size)).mono ?_
                        rintro e w5 ⟨rfl, hb5⟩
                        have hB5 := hB4.trans (hb5.mono hB4.size)
                        have k5 := k4.same (hb5.block _ k4.lt)
                        have x0 : w5.cell? ⟨wr.heap.size, 0, none⟩ = some (.string xs[d].ctors[k].name) := (k5.cell 0).trans (by simp)
                        have hx0 := k5.lt
                        clear k4 k5 k0 k1 k2
                        have HD5 := Lib.hid ((HD.out.below hb4).below hb5)
                        have HM5 := Lib.hid ((HM.out.below hb4).below hb5)
                        have hlk := HM5.out.look xs[d].ctors[k].name (by unfold maxLen; exact HS3.out)
                        cases e2 : ctorOkB xs.length xs[d].ctors[k] with
                        | false =>
                          have hf := Lib.hid (HKI.out.bad1 hkl e2)
                          clear e2 hlk
                          go_wp2
                          go_ret
                          exact ⟨ret_bool hf.out.symm, hB5⟩
                        | true =>
                          cases e3 : nameIn (ctorNames (xs.take d) ++ (xs[d].ctors.take k).map Kt.name) xs[d].ctors[k].name with
                          | true =>
                            have hf := Lib.hid (HKI.out.bad2 hkl e3)
                            rw [e3] at hlk
                            clear e2 e3
                            go_wp2
                            go_ret
                            exact ⟨ret_bool hf.out.symm, hB5⟩
                          | false =>
                            have HK3 := Lib.hid (HKI.out.next hkl e2 e3)
                            rw [e3] at hlk
                            clear e2 e3
                            obtain ⟨w6, hrun6, hm6, hg6⟩ := HM5.out.add (by
                              have h1 := ctorNames_len (xs.take d) (fun x hx => H4.out x hx)
                              have h2 : (xs.take d).length ≤ 4 := by rw [List.length_take]; omega
                              have h3 := H5.out
                              simp only [List.length_append, List.length_map, List.length_take]
                              omega) xs[d].ctors[k].name (by unfold maxLen; exact HS3.out)
                            have hB6 := hB5.grown hg6 hB5.size (fun _ h => by cases h; exact Nat.le_refl _)
                            have HD6 := Lib.hid (HD5.out.kept hg6 (by simp))
                            have HM6 : Hid (OwnsNames w6 w.heap.size (ctorNames (xs.take d) ++ (xs[d].ctors.take (k + 1)).map Kt.name)) := by
                              rw [take_snoc' _ k hkl, List.map_append, ← List.append_assoc]; exact hm6
                            have hz6 : w.heap.size + 1 < w6.heap.size := Nat.lt_of_lt_of_le hz (Nat.le_trans hb4.size (Nat.le_trans hb5.size hg6.size))
                            clear hm6 hg6 hb5 hb4 HD5 HM5 hB4 hB5 hB
                            go_wp2
                            go_roundw
                            case rel => exact ⟨k + 1, by omega, by go_num, HK3, hB6, HD6, HM6, hz6⟩
                            case measure => (simp [intOf] <;> omega)
                      · have HW2 := Lib.hid (HKI.out.done (by omega))
                        have HM6 : Hid (OwnsNames wr w.heap.size (ctorNames (xs.take (d + 1)))) := by
                          have h := HM.out
                          rw [List.take_of_length_le (show xs[d].ctors.length ≤ k by omega), ← ctorNames_snoc, ← take_snoc' xs d hlt] at h
                          exact h
                        have H6 : Hid (∀ x ∈ xs.take (d + 1), x.ctors.length ≤ 4) := fun x hx => by
                          rw [take_snoc' xs d hlt] at hx
                          rcases List.mem_append.1 hx with h | h
                          · exact H4.out x h
                          · rw [List.mem_singleton.1 h]; exact H5.out
                        go_wp2
                        go_roundw
                        case rel => exact ⟨d + 1, by omega, by go_num, HW2, hB, HD, HM6, H6, hz⟩
                        case measure => (simp [intOf] <;> omega)
        · have t1 : ((xs[d].name.size : Int) != 1) = true := by simp; omega
          have hf := Lib.hid (HW.out.bad1 hlt (dname_not h1))
          clear h1 hlk
          go_wp2
          go_ret
          exact ⟨ret_bool hf.out.symm, hB.alloc hB.size _⟩
      · have hf := Lib.hid (HW.out.done (by omega))
        go_wp2
        go_ret
        exact ⟨ret_bool hf.out.symm, hB⟩
  · have hf := Lib.hid (worldOk_long h4)
    go_enter Try.func11, Try.ntmps11
    go_wp2
    go_ret
    exact ⟨ret_bool hf.out.symm, Below.refl _ _⟩
end Go.Proofs.Ytbejcgknjnhdpaa

namespace Go.Proofs.Ytbejcgknjnhdpaa
open Go.RowKit

set_option maxRecDepth 100000 in
set_option maxHeartbeats 1600000 in
theorem impl_typeOk (A : Option Addr) (n cap : Nat) (t : Ty) (w : World) (hn : n ≤ 9223372036854775807) : Calls Try.prog 38 #[.slice A n cap, .agg #[.int .i64 t.d, .int .i64 t.i]] w fun e w' => e = .returned (.bool (typeOkB n t)) ∧ Below w.heap.size w w' := by
  cases h0 : (t.d == -1) with
  | true =>
    cases h1 : (t.i == 0) with
    | true =>
      have hf : Hid (typeOkB n t = true) := by unfold Hid typeOkB; rw [if_pos (by simpa using h0), h1]
      go_enter Try.func38, Try.ntmps38
      go_wp2
      go_ret
      exact ⟨ret_bool hf.out.symm, (Below.refl _ _).alloc (Nat.le_refl _) _⟩
    | false =>
      have hf : Hid (typeOkB n t = false) := by unfold Hid typeOkB; rw [if_pos (by simpa using h0), h1]
      have hw : Hid (withinB t.d 0 ((n : Int) - 1) = false) := by
        have : t.d = -1 := by simpa using h0
        exact withinB_lo (by rw [this]; rfl)
      go_enter Try.func38, Try.ntmps38
      go_wp2_with fail
      refine (impl_within t.d 0 ((n : Int) - 1) _).mono ?_
      rintro e w' ⟨rfl, rfl⟩
      rw [hw.out]
      go_wp2
      go_ret
      exact ⟨ret_bool hf.out.symm, (Below.refl _ _).alloc (Nat.le_refl _) _⟩
  | false =>
    have hf0 : typeOkB n t = (withinB t.d 0 ((n : Int) - 1) && withinB t.i 0 3) := by unfold typeOkB; rw [if_neg (by simpa using h0)]
    cases hw : withinB t.d 0 ((n : Int) - 1) with
    | false =>
      have hf : Hid (typeOkB n t = false) := by rw [hf0, hw]; rfl
      have HW := Lib.hid hw
      clear hf0 hw
      go_enter Try.func38, Try.ntmps38
      go_wp2_with fail
      refine (impl_within t.d 0 ((n : Int) - 1) _).mono ?_
      rintro e w' ⟨rfl, rfl⟩
      rw [HW.out]
      go_wp2
      go_ret
      exact ⟨ret_bool hf.out.symm, (Below.refl _ _).alloc (Nat.le_refl _) _⟩
    | true =>
      have hf : Hid (typeOkB n t = withinB t.i 0 3) := by rw [hf0, hw]; rfl
      have HW := Lib.hid hw
      clear hf0 hw
      go_enter Try.func38, Try.ntmps38
      go_wp2_with fail
      refine (impl_within t.d 0 ((n : Int) - 1) _).mono ?_
      rintro e w' ⟨rfl, rfl⟩
      rw [HW.out]
      go_wp2_with fail
      refine (impl_within t.i 0 3 _).mono ?_
      rintro e w' ⟨rfl, rfl⟩
      generalize hbb : withinB t.i 0 3 = bb
      have HBB := Lib.hid hbb
      clear hbb
      go_wp2
      go_ret
      exact ⟨ret_bool (hf.out.trans HBB.out).symm, (Below.refl _ _).alloc (Nat.le_refl _) _⟩

set_option maxRecDepth 100000 in
set_option maxHeartbeats 1600000 in
theorem spec_l1Is (A : Option Addr) (n cap : Nat) (t : Ty) (w : World) : Calls Try.prog 61 #[.slice A n cap, .agg #[.int .i64 t.d, .int .i64 t.i]] w fun e w' => e = .returned (.bool (typeOkB n t)) ∧ Below w.heap.size w w' := by
  have h0 := typeOkB_arg n t
  go_enter Try.func61, Try.ntmps61
  go_wp2_with fail
  obtain ⟨W2, hW2⟩ : ∃ W2, W2 = w.alloc (.cells #[.int .i64 t.d, .int .i64 t.i] 33) := ⟨_, rfl⟩
  have hB2 : Below w.heap.size w W2 := by rw [hW2]; exact (Below.refl _ _).alloc (Nat.le_refl _) _
  have k1 : Blk W2 w.heap.size 33 #[.int .i64 t.d, .int .i64 t.i] := by rw [hW2]; exact Blk.new _ _ _
  rw [← hW2]
  clear hW2
  refine (spec_l1Arg n t W2).mono ?_
  rintro e w' ⟨rfl, hB'⟩
  have hB3 := hB2.trans (hB'.mono hB2.size)
  have k2 := k1.same (hB'.block _ k1.lt)
  have x1 : w'.cell? ⟨w.heap.size, 1, none⟩ = some (.int .i64 t.i) := (k2.cell 1).trans (by simp)
  have hlt := k2.lt
  clear k1 k2
  cases h1 : argOkB n t with
  | false =>
    rw [h1] at h0
    have hf := Lib.hid h0
    clear h0 h1
    go_wp2
    go_ret
    exact ⟨ret_bool hf.out, hB3⟩
  | true =>
    rw [h1, Bool.true_and] at h0
    have hf := Lib.hid h0
    clear h0 h1
    go_wp2
    go_ret
    exact ⟨ret_bool hf.out, hB3⟩

set_option maxRecDepth 100000 in
set_option maxHeartbeats 1600000 in
theorem spec_TypeValid (xs : List Dt) (t : Ty) (w : World) (v : Value) (F : List Nat) (hx : Arr w (DtR w) xs v F) (hf : Under w.heap.size F) :
    Calls Try.prog 36 #[v, .agg #[.int .i64 t.d, .int .i64 t.i]] w fun e w' => e = .returned (.bool (typeValidB xs t)) ∧ Below w.heap.size w w' := by
  obtain ⟨A, cap, rfl, hc1, hc2⟩ := hx.form
  have hn : xs.length ≤ 9223372036854775807 := by omega
  have HX := Lib.hid hx
  have HF := Lib.hid hf
  have HN := Lib.hid hn
  clear hx hf hn
  go_enter Try.func36, Try.ntmps36
  go_wp2_with fail
  obtain ⟨W2, hW2⟩ : ∃ W2, W2 = w.alloc (.cells #[.int .i64 t.d, .int .i64 t.i] 33) := ⟨_, rfl⟩
  have hB2 : Below w.heap.size w W2 := by rw [hW2]; exact (Below.refl _ _).alloc (Nat.le_refl _) _
  have k1 : Blk W2 w.heap.size 33 #[.int .i64 t.d, .int .i64 t.i] := by rw [hW2]; exact Blk.new _ _ _
  rw [← hW2]
  clear hW2
  refine (spec_WorldValid xs W2 _ F (ArrDt.below HX.out hB2 HF.out) (HF.out.mono hB2.size)).mono ?_
  rintro e w' ⟨rfl, hB'⟩
  have hB3 := hB2.trans (hB'.mono hB2.size)
  have k2 := k1.same (hB'.block _ k1.lt)
  have x0 : w'.cell? ⟨w.heap.size, 0, none⟩ = some (.int .i64 t.d) := (k2.cell 0).trans (by simp)
  have x1 : w'.cell? ⟨w.heap.size, 1, none⟩ = some (.int .i64 t.i) := (k2.cell 1).trans (by simp)
  have hlt := k2.lt
  clear k1 k2
  cases h1 : worldOk xs with
  | false =>
    have hf : Hid (typeValidB xs t = false) := by unfold Hid typeValidB; rw [h1]; rfl
    clear h1
    go_wp2
    go_ret
    exact ⟨ret_bool hf.out.symm, hB3⟩
  | true =>
    have hf : Hid (typeValidB xs t = typeOkB xs.length t) := by unfold Hid typeValidB; rw [h1]; rfl
    clear h1
    go_wp2_with fail
    refine (spec_l1Is _ xs.length cap t w').mono ?_
    rintro e w2 ⟨rfl, hB''⟩
    have hB4 := hB3.trans (hB''.mono hB3.size)
    generalize hbb : typeOkB (xs.length : Int) t = bb
    have HBB := Lib.hid hbb
    clear hbb
    go_wp2
    go_ret
    exact ⟨ret_bool (hf.out.trans HBB.out).symm, hB4⟩

set_option maxRecDepth 100000 in
set_option maxHeartbeats 1600000 in
theorem impl_TypeValid (xs : List Dt) (t : Ty) (w : World) (v : Value) (F : List Nat) (hx : Arr w (DtR w) xs v F) (hf : Under w.heap.size F) :
    Calls Try.prog 17 #[v, .agg #[.int .i64 t.d, .int .i64 t.i]] w fun e w' => e = .returned (.bool (typeValidB xs t)) ∧ Below w.heap.size w w' := by
  obtain ⟨A, cap, rfl, hc1, hc2⟩ := hx.form
  have hn : xs.length ≤ 9223372036854775807 := by omega
  have HX := Lib.hid hx
  have HF := Lib.hid hf
  have HN := Lib.hid hn
  clear hx hf hn
  go_enter Try.func17, Try.ntmps17
  go_wp2_with fail
  obtain ⟨W2, hW2⟩ : ∃ W2, W2 = w.alloc (.cells #[.int .i64 t.d, .int .i64 t.i] 33) := ⟨_, rfl⟩
  have hB2 : Below w.heap.size w W2 := by rw [hW2]; exact (Below.refl _ _).alloc (Nat.le_refl _) _
  have k1 : Blk W2 w.heap.size 33 #[.int .i64 t.d, .int .i64 t.i] := by rw [hW2]; exact Blk.new _ _ _
  rw [← hW2]
  clear hW2
  refine (impl_WorldValid xs W2 _ F (ArrDt.below HX.out hB2 HF.out) (HF.out.mono hB2.size)).mono ?_
  rintro e w' ⟨rfl, hB'⟩
  have hB3 := hB2.trans (hB'.mono hB2.size)
  have k2 := k1.same (hB'.block _ k1.lt)
  have x0 : w'.cell? ⟨w.heap.size, 0, none⟩ = some (.int .i64 t.d) := (k2.cell 0).trans (by simp)
  have x1 : w'.cell? ⟨w.heap.size, 1, none⟩ = some (.int .i64 t.i) := (k2.cell 1).trans (by simp)
  have hlt := k2.lt
  clear k1 k2
  cases h1 : worldOk xs with
  | false =>
    have hf : Hid (typeValidB xs t = false) := by unfold Hid typeValidB; rw [h1]; rfl
    clear h1
    go_wp2
    go_ret
    exact ⟨ret_bool hf.out.symm, hB3⟩
  | true =>
    have hf : Hid (typeValidB xs t = typeOkB xs.length t) := by unfold Hid typeValidB; rw [h1]; rfl
    clear h1
    go_wp2_with fail
    refine (impl_typeOk _ xs.length cap t w' HN.out).mono ?_
    rintro e w2 ⟨rfl, hB''⟩
    have hB4 := hB3.trans (hB''.mono hB3.size)
    generalize hbb : typeOkB (xs.length : Int) t = bb
    have HBB := Lib.hid hbb
    clear hbb
    go_wp2
    go_ret
    exact ⟨ret_bool (hf.out.trans HBB.out).symm, hB4⟩
end Go.Proofs.Ytbejcgknjnhdpaa

namespace Go.Proofs.Ytbejcgknjnhdpaa
open Go.RowKit

/-- what CtorsOf gives -/
def ctorsOfL (xs : List Dt) (t : Ty) : List Int := if typeValidB xs t = true then ctorsL xs t else []
theorem sumBy_one {α : Type} {f : α → Nat} (h : ∀ x, f x = 1) (xs : List α) : sumBy f xs = xs.length := by
  induction xs with
  | nil => rfl
  | cons x xs ih => rw [sumBy, ih, h, List.length_cons]; omega
theorem ctorsOfL_len (xs : List Dt) (t : Ty) : (ctorsOfL xs t).length ≤ 4 := by
  unfold ctorsOfL
  split
  · rename_i h
    obtain ⟨hw, ht⟩ := typeValid_split h
    rcases typeOkB_in ht with hd | ⟨d, hd, hdl⟩
    · rw [ctorsL_int hd]; simp
    · obtain ⟨t1, t2⟩ := t
      simp only at hd
      subst hd
      rw [ctorsL_data hdl]
      exact Nat.le_trans (fitTo_len _ _ _) (hw.at hdl).hi
  · simp

set_option maxRecDepth 100000 in
set_option maxHeartbeats 1600000 in
theorem spec_l1Fits (c : Kt) (i : Int) (A : Option Addr) (n cap : Nat) (w : World) : Calls Try.prog 62 #[.agg #[.string c.name, .slice A n cap, .int .i64 c.idx], .int .i64 i] w fun e w' => e = .returned (.bool (fitsB c i)) ∧ Below w.heap.size w w' := by
  cases q1 : (c.idx == 0) with
  | true =>
    have hf : Hid (fitsB c i = true) := by unfold Hid fitsB; rw [q1, Bool.true_or]
    go_enter Try.func62, Try.ntmps62
    go_wp2
    go_ret
    exact ⟨ret_bool hf.out.symm, (Below.refl _ _).alloc (Nat.le_refl _) _⟩
  | false =>
    cases q0 : (i == 0) with
    | true =>
      have hf : Hid (fitsB c i = true) := by unfold Hid fitsB; rw [q0, Bool.true_or, Bool.or_true]
      go_enter Try.func62, Try.ntmps62
      go_wp2
      go_ret
      exact ⟨ret_bool hf.out.symm, (Below.refl _ _).alloc (Nat.le_refl _) _⟩
    | false =>
      have hf : Hid (fitsB c i = (c.idx == i)) := by unfold Hid fitsB; rw [q0, q1, Bool.false_or, Bool.false_or]
      go_enter Try.func62, Try.ntmps62
      go_wp2
      go_ret
      exact ⟨ret_bool hf.out.symm, (Below.refl _ _).alloc (Nat.le_refl _) _⟩
set_option maxRecDepth 100000 in
set_option maxHeartbeats 1600000 in
theorem spec_l1Ctors (xs : List Dt) (t : Ty) (w : World) (v : Value) (F : List Nat) (hx : Arr w (DtR w) xs v F) (hf : Under w.heap.size F) (hw : WorldOK xs) (ht : InWorld xs.length t) :
    Calls Try.prog 37 #[v, .agg #[.int .i64 t.d, .int .i64 t.i]] w (MadeNats w (ctorsL xs t)) := by
  obtain ⟨A, cap, rfl, hc1, hc2⟩ := hx.form
  have HX := Lib.hid hx
  have HF := Lib.hid hf
  clear hx hf
  rcases ht with hd | ⟨d, hd, hdl⟩
  · have hf := Lib.hid (ctorsL_int (xs := xs) hd)
    have t0 : (t.d == -1) = true := by simp [hd]
    clear hd
    go_enter Try.func37, Try.ntmps37
    go_wp2
    go_ret
    rw [hf.out]
    exact ⟨_, [], rfl, ((Below.refl _ _).alloc (Nat.le_refl _) _).alloc (by simp) _, ⟨_, _, rfl, by simp, by simp [maxLen], .inl ⟨rfl, rfl⟩⟩, Free.nil _, Fresh.nil _ _⟩
  · obtain ⟨t1, t2⟩ := t
    simp only at hd
    subst hd
    have hf := Lib.hid (ctorsL_data (i := t2) hdl)
    have t0 : ((d : Int) == -1) = false := by rw [beq_eq_false_iff_ne]; omega
    obtain ⟨i0, hi, hz0, hz1, hz2⟩ := info_parts info_int
    have HI := Lib.hid hi
    have HZ0 := Lib.hid hz0
    have HZ1 := Lib.hid hz1
    have HZ2 := Lib.hid hz2
    clear hi hz0 hz1 hz2
    obtain ⟨b, off, rfl⟩ := HX.out.ptr (by omega)
    have hB0 : Below w.heap.size w ((w.alloc (.cells #[.int .i64 (d : Int), .int .i64 t2] 33)).alloc (.cells #[] 3)) := ((Below.refl _ _).alloc (Nat.le_refl _) _).alloc (by simp) _
    have KT0 : Hid (Blk ((w.alloc (.cells #[.int .i64 (d : Int), .int .i64 t2] 33)).alloc (.cells #[] 3)) w.heap.size 33 #[.int .i64 (d : Int), .int .i64 t2]) := (Blk.new _ _ _).same (Below.heap_alloc _ _ _ (by simp))
    have HO0 : Hid (Own ((w.alloc (.cells #[.int .i64 (d : Int), .int .i64 t2] 33)).alloc (.cells #[] 3)) (w.heap.size + 1) 3 1 NatR ([] : List Int) (.slice (some ⟨w.heap.size + 1, 0, none⟩) 0 0) []) := by
      have h := Own.made (w.alloc (.cells #[.int .i64 (d : Int), .int .i64 t2] 33)) (w.heap.size + 1) 3 1 NatR #[] 0 (by simp) (by simp [maxLen]) rfl
      rwa [World.size_alloc] at h
    have g1 : (0 : Int) ≤ (d : Int) := by omega
    have g2 : (d : Int) < (xs.length : Int) := by omega
    have HL := Lib.hid (hw.at hdl).hi
    go_enter Try.func37, Try.ntmps37
    go_wp2
    go_loopw [5, 6] (fun ov iv wr => ∃ k : Nat, k ≤ xs[d].ctors.length ∧ iv = .int .i64 k ∧ Hid (Own wr (w.heap.size + 1) 3 1 NatR (fitTo xs[d].ctors t2 k) ov []) ∧ Below w.heap.size w wr ∧ Hid (Blk wr w.heap.size 33 #[.int .i64 (d : Int), .int .i64 t2])) (fun _ iv _ => xs[d].ctors.length - (intOf iv).toNat)
    case atStart => exact ⟨0, Nat.zero_le _, rfl, HO0, hB0, KT0⟩
    case round =>
      clear hB0 KT0 HO0
      obtain ⟨k, hk, rfl, HO, hB, KT⟩ := hrel
      obtain ⟨A1, cap1, G1, hb, c0, c1, HK, HG, hs, hn1, hn2⟩ := ArrDt.at HX.out HF.out hB d hdl
      clear c0 hs
      have y0 : wr.cell? ⟨w.heap.size, 0, none⟩ = some (.int .i64 (d : Int)) := (KT.out.cell 0).trans (by simp)
      have y1 : wr.cell? ⟨w.heap.size, 1, none⟩ = some (.int .i64 t2) := (KT.out.cell 1).trans (by simp)
      have hy1 := KT.out.lt
      by_cases hkl : k < xs[d].ctors.length
      · obtain ⟨b2, off2, rfl⟩ := HK.out.ptr (by omega)
        obtain ⟨A3, cap3, G3, hb3, k0, k1, k2, HC, HG3, -, -, -⟩ := ArrKt.rep HK.out HG.out hB k hkl
        have g3 : (0 : Int) ≤ (k : Int) := by omega
        have g4 : (k : Int) < (xs[d].ctors.length : Int) := by omega
        go_wp2_with fail
        have hkeep : ∀ U U' : World, (U.cell? ⟨w.heap.size, 0, none⟩ = some (.int .i64 (d : Int)) ∧ U.cell? ⟨w.heap.size, 1, none⟩ = some (.int .i64 t2) ∧ U.cell? ⟨b, off + d * 2 + 1, none⟩ = some (.slice (some ⟨b2, off2, none⟩) xs[d].ctors.length cap1) ∧ U.cell? ⟨b2, off2 + k * 3, none⟩ = some (.string xs[d].ctors[k].name) ∧ U.cell? ⟨b2, off2 + k * 3 + 1, none⟩ = some (.slice A3 xs[d].ctors[k].args.length cap3) ∧ U.cell? ⟨b2, off2 + k * 3 + 2, none⟩ = some (.int .i64 xs[d].ctors[k].idx)) → Below U.heap.size U U' → wr.heap.size ≤ U.heap.size → (U'.cell? ⟨w.heap.size, 0, none⟩ = some (.int .i64 (d : Int)) ∧ U'.cell? ⟨w.heap.size, 1, none⟩ = some (.int .i64 t2) ∧ U'.cell? ⟨b, off + d * 2 + 1, none⟩ = some (.slice (some ⟨b2, off2, none⟩) xs[d].ctors.length cap1) ∧ U'.cell? ⟨b2, off2 + k * 3, none⟩ = some (.string xs[d].ctors[k].name) ∧ U'.cell? ⟨b2, off2 + k * 3 + 1, none⟩ = some (.slice A3 xs[d].ctors[k].args.length cap3) ∧ U'.cell? ⟨b2, off2 + k * 3 + 2, none⟩ = some (.int .i64 xs[d].ctors[k].idx)) := fun U U' h hUU hU => ⟨(hUU.cell (Nat.lt_of_lt_of_le (KT.out.lt) hU)).trans h.1, (hUU.cell (Nat.lt_of_lt_of_le (KT.out.lt) hU)).trans h.2.1, (hUU.cell (Nat.lt_of_lt_of_le (hb) hU)).trans h.2.2.1, (hUU.cell (Nat.lt_of_lt_of_le (hb3) hU)).trans h.2.2.2.1, (hUU.cell (Nat.lt_of_lt_of_le (hb3) hU)).trans h.2.2.2.2.1, (hUU.cell (Nat.lt_of_lt_of_le (hb3) hU)).trans h.2.2.2.2.2⟩
        have HKeep := Lib.hid hkeep
        clear hkeep
        go_region_held3 (fun w' => w'.cell? ⟨w.heap.size, 0, none⟩ = some (.int .i64 (d : Int)) ∧ w'.cell? ⟨w.heap.size, 1, none⟩ = some (.int .i64 t2) ∧ w'.cell? ⟨b, off + d * 2 + 1, none⟩ = some (.slice (some ⟨b2, off2, none⟩) xs[d].ctors.length cap1) ∧ w'.cell? ⟨b2, off2 + k * 3, none⟩ = some (.string xs[d].ctors[k].name) ∧ w'.cell? ⟨b2, off2 + k * 3 + 1, none⟩ = some (.slice A3 xs[d].ctors[k].args.length cap3) ∧ w'.cell? ⟨b2, off2 + k * 3 + 2, none⟩ = some (.int .i64 xs[d].ctors[k].idx)) (first | assumption | (exact ⟨y0, y1, c1, k0, k1, k2⟩) | (exact HKeep.out wr.drew w' ⟨y0, y1, c1, k0, k1, k2⟩ hB' (Nat.le_refl _))) (first | (go_at_call 62; ((with_reducible refine (spec_l1Fits xs[d].ctors[k] t2 _ _ _ _).mono ?_); rintro e w' ⟨rfl, hB'⟩)))
        have hB1 := hB.drew.trans (hB'.mono hB.size)
        have HO1 : Hid (Own w' (w.heap.size + 1) 3 1 NatR (fitTo xs[d].ctors t2 k) u5 []) := Own.below (fun x cs G hk h => NatR_mono _ _ x cs G hk h) (w := wr) HO.out (below_undrew hB')
        have KT1 : Hid (Blk w' w.heap.size 33 #[.int .i64 (d : Int), .int .i64 t2]) := KT.out.same (hB'.block _ KT.out.lt)
        have hsz1 : wr.heap.size ≤ w'.heap.size := hB'.size
        have hz1' : w.heap.size + 1 ≤ wr.heap.size := KT.out.lt
        clear HKeep
        cases e1 : fitsB xs[d].ctors[k] t2 with
        | false =>
          have HF2 := Lib.hid (fitTo_no hkl e1)
          clear e1
          go_wp2
          go_roundw
          case rel => exact ⟨k + 1, by omega, by go_num, (by rw [HF2.out]; exact HO1.out), hB1, KT1⟩
          case measure => (simp [intOf] <;> omega)
        | true =>
          have HF2 := Lib.hid (fitTo_yes hkl e1)
          clear e1
          have hlen := fitTo_len xs[d].ctors t2 k
          go_wp2_with (at_builtin; refine Halt.mk ?_)
          refine Halt.of (wpList_push1 (P := Try.prog) rfl _ _ 37 rfl i0 _ 8 Try.underlying37 HI.out HZ0.out HZ1.out HZ2.out rfl Nat.zero_lt_one NatR_len NatR_mono (by rfl) HO1.out (k : Int) 3 [.int .i64 (k : Int)] [] _ (by rfl) (by simp) (by simp [Value.oneCell']) ⟨rfl, rfl⟩ (Under.nil _) (fun _ _ h => by cases h) (by have := HL.out; unfold maxLen; omega) (by have := HL.out; omega) (Nat.le_trans hz1' hsz1) ?_)
          intro g cp w3 hown3 hgr3 hat3
          have hrow := HO1.out.row
          have hB3 : Below w.heap.size w w3 := (hB1.alloc hB1.size _).grown hgr3 (by have := hB1.size; simp; omega) (fun g hg => by have := hrow g (mem_rowOf.2 hg); omega)
          have HO3 := Lib.hid hown3
          have KT3 : Hid (Blk w3 w.heap.size 33 #[.int .i64 (d : Int), .int .i64 t2]) := (KT1.out.same (Below.heap_alloc _ _ _ KT1.out.lt)).same (hgr3.block _ (by have := KT1.out.lt; simp; omega) (fun e => by have := hrow _ (mem_rowOf.2 e.symm); omega))
          have hsz3 := hgr3.size
          clear hown3 hgr3 hat3 hrow hlen
          go_wp2
          go_roundw
          case rel => exact ⟨k + 1, by omega, by go_num, (by rw [HF2.out]; exact HO3.out), hB3, KT3⟩
          case measure => (simp [intOf] <;> omega)
      · have hfin : MadeNats w (ctorsL xs ⟨(d : Int), t2⟩) (.returned u5) wr := by
          rw [hf.out]
          have h := HO.out
          rw [show k = xs[d].ctors.length by omega] at h
          exact h.nats hB (by omega)
        have HFin := Lib.hid hfin
        clear hfin
        go_wp2
        go_ret
        exact HFin.out
set_option maxRecDepth 100000 in
set_option maxHeartbeats 1600000 in
theorem spec_CtorsOf (xs : List Dt) (t : Ty) (w : World) (v : Value) (F : List Nat) (hx : Arr w (DtR w) xs v F) (hf : Under w.heap.size F) :
    Calls Try.prog 16 #[v, .agg #[.int .i64 t.d, .int .i64 t.i]] w (MadeNats w (ctorsOfL xs t)) := by
  obtain ⟨A, cap, rfl, hc1, hc2⟩ := hx.form
  have HX := Lib.hid hx
  have HF := Lib.hid hf
  clear hx hf
  go_enter Try.func16, Try.ntmps16
  go_wp2_with fail
  obtain ⟨W2, hW2⟩ : ∃ W2, W2 = w.alloc (.cells #[.int .i64 t.d, .int .i64 t.i] 33) := ⟨_, rfl⟩
  have hB2 : Below w.heap.size w W2 := by rw [hW2]; exact (Below.refl _ _).alloc (Nat.le_refl _) _
  have k1 : Blk W2 w.heap.size 33 #[.int .i64 t.d, .int .i64 t.i] := by rw [hW2]; exact Blk.new _ _ _
  rw [← hW2]
  clear hW2
  refine (spec_TypeValid xs t W2 _ F (ArrDt.below HX.out hB2 HF.out) (HF.out.mono hB2.size)).mono ?_
  rintro e w' ⟨rfl, hB'⟩
  have hB3 := hB2.trans (hB'.mono hB2.size)
  have k2 := k1.same (hB'.block _ k1.lt)
  have x0 : w'.cell? ⟨w.heap.size, 0, none⟩ = some (.int .i64 t.d) := (k2.cell 0).trans (by simp)
  have x1 : w'.cell? ⟨w.heap.size, 1, none⟩ = some (.int .i64 t.i) := (k2.cell 1).trans (by simp)
  have hlt := k2.lt
  clear k1 k2
  cases h1 : typeValidB xs t with
  | false =>
    have hf : Hid (ctorsOfL xs t = []) := by unfold Hid ctorsOfL; rw [if_neg (by simp [h1])]
    clear h1
    go_wp2
    go_ret
    rw [hf.out]
    exact ⟨_, [], rfl, hB3.alloc hB3.size _, ⟨_, _, rfl, by simp, by simp [maxLen], .inl ⟨rfl, rfl⟩⟩, Free.nil _, Fresh.nil _ _⟩
  | true =>
    have hf : Hid (ctorsOfL xs t = ctorsL xs t) := by unfold Hid ctorsOfL; rw [if_pos h1]
    obtain ⟨hw, hto⟩ := typeValid_split h1
    have HW := Lib.hid hw
    have HT := Lib.hid (typeOkB_in hto)
    clear h1 hw hto
    go_wp2_with fail
    refine (spec_l1Ctors xs t w' _ F (ArrDt.below HX.out hB3 HF.out) (HF.out.mono hB3.size) HW.out HT.out).mono ?_
    rintro e w2 ⟨v2, F2, rfl, hB4, ha2, hfr2, hfs2⟩
    have hfin : MadeNats w (ctorsOfL xs t) (.returned v2) w2 := by
      rw [hf.out]
      exact ⟨v2, F2, rfl, hB3.trans (hB4.mono hB3.size), ha2, hfr2, fun b hb => ⟨Nat.le_trans hB3.size (hfs2 b hb).1, (hfs2 b hb).2⟩⟩
    have HFin := Lib.hid hfin
    clear hfin hB4 ha2 hfr2 hfs2
    go_wp2
    go_ret
    exact HFin.out
set_option maxRecDepth 100000 in
set_option maxHeartbeats 1600000 in
theorem impl_CtorsOf (xs : List Dt) (t : Ty) (w : World) (v : Value) (F : List Nat) (hx : Arr w (DtR w) xs v F) (hf : Under w.heap.size F) :
    Calls Try.prog 14 #[v, .agg #[.int .i64 t.d, .int .i64 t.i]] w (MadeNats w (ctorsOfL xs t)) := by
  obtain ⟨A, cap, rfl, hc1, hc2⟩ := hx.form
  have HX := Lib.hid hx
  have HF := Lib.hid hf
  clear hx hf
  go_enter Try.func14, Try.ntmps14
  go_wp2_with fail
  obtain ⟨W2, hW2⟩ : ∃ W2, W2 = w.alloc (.cells #[.int .i64 t.d, .int .i64 t.i] 33) := ⟨_, rfl⟩
  have hB2 : Below w.heap.size w W2 := by rw [hW2]; exact (Below.refl _ _).alloc (Nat.le_refl _) _
  have k1 : Blk W2 w.heap.size 33 #[.int .i64 t.d, .int .i64 t.i] := by rw [hW2]; exact Blk.new _ _ _
  rw [← hW2]
  clear hW2
  refine (impl_TypeValid xs t W2 _ F (ArrDt.below HX.out hB2 HF.out) (HF.out.mono hB2.size)).mono ?_
  rintro e w' ⟨rfl, hB'⟩
  have hB3 := hB2.trans (hB'.mono hB2.size)
  have k2 := k1.same (hB'.block _ k1.lt)
  have x0 : w'.cell? ⟨w.heap.size, 0, none⟩ = some (.int .i64 t.d) := (k2.cell 0).trans (by simp)
  have x1 : w'.cell? ⟨w.heap.size, 1, none⟩ = some (.int .i64 t.i) := (k2.cell 1).trans (by simp)
  have hlt := k2.lt
  clear k1 k2
  cases h1 : typeValidB xs t with
  | false =>
    have hf : Hid (ctorsOfL xs t = []) := by unfold Hid ctorsOfL; rw [if_neg (by simp [h1])]
    clear h1
    go_wp2
    go_ret
    rw [hf.out]
    exact ⟨_, [], rfl, hB3, Arr.nil, Free.nil _, Fresh.nil _ _⟩
  | true =>
    have hf : Hid (ctorsOfL xs t = ctorsL xs t) := by unfold Hid ctorsOfL; rw [if_pos h1]
    obtain ⟨hw, hto⟩ := typeValid_split h1
    have HW := Lib.hid hw
    have HT := Lib.hid (typeOkB_in hto)
    clear h1 hw hto
    go_wp2_with fail
    refine (impl_ctorsOf xs t w' _ F (ArrDt.below HX.out hB3 HF.out) (HF.out.mono hB3.size) HW.out HT.out).mono ?_
    rintro e w2 ⟨v2, F2, rfl, hB4, ha2, hfr2, hfs2⟩
    have hfin : MadeNats w (ctorsOfL xs t) (.returned v2) w2 := by
      rw [hf.out]
      exact ⟨v2, F2, rfl, hB3.trans (hB4.mono hB3.size), ha2, hfr2, fun b hb => ⟨Nat.le_trans hB3.size (hfs2 b hb).1, (hfs2 b hb).2⟩⟩
    have HFin := Lib.hid hfin
    clear hfin hB4 ha2 hfr2 hfs2
    go_wp2
    go_ret
    exact HFin.out
end Go.Proofs.Ytbejcgknjnhdpaa

namespace Go.Proofs.Ytbejcgknjnhdpaa
open Go.RowKit

def hasB (xs : List Int) (n : Int) : Bool := xs.any fun x => n == x
theorem hasB_iff (xs : List Int) (n : Int) : hasB xs n = true ↔ n ∈ xs := by
  unfold hasB
  rw [List.any_eq_true]
  exact ⟨fun ⟨x, h, e⟩ => by rw [beq_iff_eq] at e; rw [e]; exact h, fun h => ⟨n, h, by simp⟩⟩

set_option maxRecDepth 100000 in
set_option maxHeartbeats 1600000 in
theorem Index_int (xs : List Int) (n r : Int) (hr : FirstAt (fun x => n == x) xs r) (w : World) (x : Value) (F : List Nat) (hx : Arr w (NatR w) xs x F) (hf : Under w.heap.size F) :
    Calls Try.prog 63 #[x, .int .i64 n] w fun e w' => e = .returned (.int .i64 r) ∧ Below w.heap.size w w' := by
  obtain ⟨A, cap, rfl, hc1, hc2⟩ := hx.form
  have HX := Lib.hid hx
  have HF := Lib.hid hf
  have HR := Lib.hid hr
  clear hx hf hr
  go_enter Try.func63, Try.ntmps63
  go_wp2
  go_loopw [8] (fun i wr => ∃ k : Nat, k ≤ xs.length ∧ i = .int .i64 k ∧ Hid (∀ j (hj : j < xs.length), j < k → (n == xs[j]) = false) ∧ Below w.heap.size w wr) (fun i _ => xs.length - (intOf i).toNat)
  case atStart => exact ⟨0, Nat.zero_le _, rfl, fun j hj h => by omega, Below.refl _ _⟩
  case round =>
    obtain ⟨k, hk, rfl, HT, hB⟩ := hrel
    by_cases hlt : k < xs.length
    · have g1 : (0 : Int) ≤ (k : Int) := by omega
      have g2 : (k : Int) < (xs.length : Int) := by omega
      obtain ⟨b, off, rfl⟩ := HX.out.ptr (by omega)
      obtain ⟨hb, c0⟩ := ArrNat.at HX.out HF.out hB k hlt
      cases hq : (n == xs[k]) with
      | true =>
        have hf := Lib.hid (HR.out.hit hlt hq (fun j hj h => HT.out j hj h))
        go_wp2
        go_ret
        exact ⟨ret_int hf.out.symm, hB⟩
      | false =>
        have hT2 : Hid (∀ j (hj : j < xs.length), j < k + 1 → (n == xs[j]) = false) := fun j hj h => by
          rcases Nat.lt_or_ge j k with h2 | h2
          · exact HT.out j hj h2
          · obtain rfl : j = k := by omega
            exact hq
        go_wp2
        go_roundw
        case rel => exact ⟨k + 1, by omega, by go_num, hT2, hB⟩
        case measure => (simp [intOf] <;> omega)
    · have hf : Hid (r = -1) := HR.out.miss (fun j hj => HT.out j hj (by omega))
      go_wp2
      go_ret
      exact ⟨ret_int hf.out.symm, hB⟩

set_option maxRecDepth 100000 in
set_option maxHeartbeats 1600000 in
theorem impl_has (xs : List Int) (n : Int) (w : World) (x : Value) (F : List Nat) (hx : Arr w (NatR w) xs x F) (hf : Under w.heap.size F) :
    Calls Try.prog 40 #[x, .int .i64 n] w fun e w' => e = .returned (.bool (hasB xs n)) ∧ Below w.heap.size w w' := by
  obtain ⟨r, hr⟩ := FirstAt.ex (fun x => n == x) xs
  have hres : Hid (hasB xs n = decide (0 ≤ r)) := hr.any
  have hcall := Index_int xs n r hr w x F hx hf
  obtain ⟨A, cap, rfl, hc1, hc2⟩ := hx.form
  have HC := Lib.hid hcall
  clear hcall hr hx hf
  go_enter Try.func40, Try.ntmps40
  go_wp2_with fail
  refine HC.out.mono ?_
  rintro e w' ⟨rfl, hB'⟩
  go_wp2
  go_ret
  exact ⟨ret_bool hres.out.symm, hB'⟩
theorem any_drop {α : Type} (p : α → Bool) (l : List α) (k : Nat) (h : k < l.length) : (l.drop k).any p = (p l[k] || (l.drop (k + 1)).any p) := by
  rw [List.drop_eq_getElem_cons h]; rfl

set_option maxRecDepth 100000 in
set_option maxHeartbeats 1600000 in
theorem spec_l1Has (xs : List Int) (n : Int) (w : World) (x : Value) (F : List Nat) (hx : Arr w (NatR w) xs x F) (hf : Under w.heap.size F) :
    Calls Try.prog 42 #[x, .int .i64 n] w fun e w' => e = .returned (.bool (hasB xs n)) ∧ Below w.heap.size w w' := by
  obtain ⟨A, cap, rfl, hc1, hc2⟩ := hx.form
  have HX := Lib.hid hx
  have HF := Lib.hid hf
  clear hx hf
  go_enter Try.func42, Try.ntmps42
  go_wp2
  go_loopw [5] (fun i wr => ∃ k : Nat, k ≤ xs.length ∧ i = .int .i64 k ∧ Hid (hasB xs n = (xs.drop k).any fun x => n == x) ∧ Below w.heap.size w wr) (fun i _ => xs.length - (intOf i).toNat)
  case atStart => exact ⟨0, Nat.zero_le _, rfl, (show hasB xs n = hasB xs n from rfl), Below.refl _ _⟩
  case round =>
    obtain ⟨k, hk, rfl, HT, hB⟩ := hrel
    by_cases hlt : k < xs.length
    · have g1 : (0 : Int) ≤ (k : Int) := by omega
      have g2 : (k : Int) < (xs.length : Int) := by omega
      obtain ⟨b, off, rfl⟩ := HX.out.ptr (by omega)
      obtain ⟨hb, c0⟩ := ArrNat.at HX.out HF.out hB k hlt
      have hd := HT.out
      rw [any_drop _ xs k hlt] at hd
      cases hq : (xs[k] == n) with
      | true =>
        have hq2 : (n == xs[k]) = true := by rw [beq_iff_eq] at hq ⊢; exact hq.symm
        rw [hq2, Bool.true_or] at hd
        have hf := Lib.hid hd
        clear hd hq2
        go_wp2
        go_ret
        exact ⟨ret_bool hf.out.symm, hB⟩
      | false =>
        have hq2 : (n == xs[k]) = false := by rw [beq_eq_false_iff_ne] at hq ⊢; exact fun e => hq e.symm
        rw [hq2, Bool.false_or] at hd
        have HT2 := Lib.hid hd
        clear hd hq2
        go_wp2
        go_roundw
        case rel => exact ⟨k + 1, by omega, by go_num, HT2, hB⟩
        case measure => (simp [intOf] <;> omega)
    · have hd := HT.out
      rw [List.drop_of_length_le (by omega)] at hd
      have hf := Lib.hid hd
      clear hd
      go_wp2
      go_ret
      exact ⟨ret_bool hf.out.symm, hB⟩
end Go.Proofs.Ytbejcgknjnhdpaa

namespace Go.Proofs.Ytbejcgknjnhdpaa
open Go.RowKit

def ctorAt (xs : List Dt) (t : Ty) (k : Int) : Option Kt := (ctorsAt xs t.d)[k.toNat]?
/-- the types of the arguments of constructor k for type t -/
def argsOf (xs : List Dt) (t : Ty) (k : Int) : List Ty := match ctorAt xs t k with | some c => argsL c t.i | none => []
def argTypesL (xs : List Dt) (t : Ty) (k : Int) : List Ty := if hasB (ctorsOfL xs t) k = true then argsOf xs t k else []
theorem argsOf_get {xs : List Dt} {d k : Nat} {i : Int} (hd : d < xs.length) (hk : k < xs[d].ctors.length) : argsOf xs ⟨(d : Int), i⟩ (k : Int) = argsL xs[d].ctors[k] i := by
  unfold argsOf ctorAt
  simp only
  rw [ctorsAt_get hd, Int.toNat_natCast, List.getElem?_eq_getElem hk]
theorem mem_fitTo {cs : List Kt} {i : Int} {m : Nat} {n : Int} (h : n ∈ fitTo cs i m) : ∃ k : Nat, n = (k : Int) ∧ k < m := by
  unfold fitTo at h
  obtain ⟨k, hk, rfl⟩ := List.mem_map.1 h
  have := (List.mem_filter.1 hk).1
  exact ⟨k, rfl, by simpa using this⟩
theorem mem_ctorsL {xs : List Dt} {t : Ty} {n : Int} (ht : InWorld xs.length t) (h : n ∈ ctorsL xs t) : ∃ d k : Nat, t.d = (d : Int) ∧ n = (k : Int) ∧ ∃ hd : d < xs.length, k < xs[d].ctors.length := by
  rcases ht with hd | ⟨d, hd, hdl⟩
  · rw [ctorsL_int hd] at h; cases h
  · obtain ⟨t1, t2⟩ := t
    simp only at hd
    subst hd
    rw [ctorsL_data hdl] at h
    obtain ⟨k, rfl, hk⟩ := mem_fitTo h
    exact ⟨d, k, rfl, rfl, hdl, hk⟩
theorem argTypesL_no {xs : List Dt} {t : Ty} {k : Int} (h : hasB (ctorsOfL xs t) k = false) : argTypesL xs t k = [] := if_neg (by simp [h])
theorem argTypesL_yes {xs : List Dt} {t : Ty} {k : Int} (h : hasB (ctorsOfL xs t) k = true) : argTypesL xs t k = argsOf xs t k ∧ WorldOK xs ∧ ∃ (d m : Nat) (hd : d < xs.length), t.d = (d : Int) ∧ k = (m : Int) ∧ m < xs[d].ctors.length := by
  refine ⟨if_pos h, ?_⟩
  rw [hasB_iff] at h
  unfold ctorsOfL at h
  split at h
  · rename_i hv
    obtain ⟨hw, hto⟩ := typeValid_split hv
    obtain ⟨d, m, h1, h2, hd, hm⟩ := mem_ctorsL (typeOkB_in hto) h
    exact ⟨hw, d, m, hd, h1, h2, hm⟩
  · cases h
theorem argTypesL_len (xs : List Dt) (t : Ty) (k : Int) : (argTypesL xs t k).length ≤ 3 := by
  cases h : hasB (ctorsOfL xs t) k with
  | false => rw [argTypesL_no h]; simp
  | true =>
    obtain ⟨e, hw, d, m, hd, h1, h2, hm⟩ := argTypesL_yes h
    obtain ⟨t1, t2⟩ := t
    simp only at h1
    subst h1 h2
    rw [e, argsOf_get hd hm, argsL_len]
    exact (hw.ctor hd hm).args

set_option maxRecDepth 100000 in
set_option maxHeartbeats 1600000 in
theorem spec_ArgTypes (xs : List Dt) (t : Ty) (n : Int) (w : World) (v : Value) (F : List Nat) (hx : Arr w (DtR w) xs v F) (hf : Under w.heap.size F) :
    Calls Try.prog 21 #[v, .agg #[.int .i64 t.d, .int .i64 t.i], .int .i64 n] w (GivesTys w (argTypesL xs t n)) := by
  obtain ⟨A, cap, rfl, hc1, hc2⟩ := hx.form
  have HX := Lib.hid hx
  have HF := Lib.hid hf
  clear hx hf
  go_enter Try.func21, Try.ntmps21
  go_wp2_with fail
  obtain ⟨W2, hW2⟩ : ∃ W2, W2 = w.alloc (.cells #[.int .i64 t.d, .int .i64 t.i] 33) := ⟨_, rfl⟩
  have hB2 : Below w.heap.size w W2 := by rw [hW2]; exact (Below.refl _ _).alloc (Nat.le_refl _) _
  have k1 : Blk W2 w.heap.size 33 #[.int .i64 t.d, .int .i64 t.i] := by rw [hW2]; exact Blk.new _ _ _
  rw [← hW2]
  clear hW2
  refine (spec_CtorsOf xs t W2 _ F (ArrDt.below HX.out hB2 HF.out) (HF.out.mono hB2.size)).mono ?_
  rintro e w3 ⟨v3, F3, rfl, hb3, ha3, hfr3, hfs3⟩
  have hB3 := hB2.trans (hb3.mono hB2.size)
  have k3 := k1.same (hb3.block _ k1.lt)
  obtain ⟨A3, cap3, rfl, -, -⟩ := ha3.form
  have HA3 := Lib.hid ha3
  have HU3 := Lib.hid hfs3.under
  clear ha3 hfr3 hfs3
  go_wp2_with fail
  refine (spec_l1Has (ctorsOfL xs t) n w3 _ F3 HA3.out HU3.out).mono ?_
  rintro e w4 ⟨rfl, hb4⟩
  have hB4 := hB3.trans (hb4.mono hB3.size)
  have k4 := k3.same (hb4.block _ k3.lt)
  have x0 : w4.cell? ⟨w.heap.size, 0, none⟩ = some (.int .i64 t.d) := (k4.cell 0).trans (by simp)
  have x1 : w4.cell? ⟨w.heap.size, 1, none⟩ = some (.int .i64 t.i) := (k4.cell 1).trans (by simp)
  have hlt := k4.lt
  clear k1 k3 k4
  cases h1 : hasB (ctorsOfL xs t) n with
  | false =>
    have hf := Lib.hid (argTypesL_no h1)
    clear h1
    go_wp2
    go_ret
    rw [hf.out]
    exact ⟨_, [], rfl, hB4.alloc hB4.size _, ⟨_, _, rfl, by simp, by simp [maxLen], .inl ⟨rfl, rfl⟩⟩, Free.nil _, Fresh.nil _ _⟩
  | true =>
    obtain ⟨e1, hw, d, m, hd, hd1, hd2, hm⟩ := argTypesL_yes h1
    obtain ⟨t1, t2⟩ := t
    simp only at hd1
    subst hd1 hd2
    rw [argsOf_get hd hm] at e1
    have hf := Lib.hid e1
    have HL := Lib.hid (hw.ctor hd hm).args
    clear h1 e1 hw
    go_wp2_with fail
    refine (spec_l1Args xs d m t2 hd hm w4 _ F (ArrDt.below HX.out hB4 HF.out) (HF.out.mono hB4.size) HL.out).mono ?_
    rintro e w5 ⟨v5, F5, rfl, hB5, ha5, hfr5, hfs5⟩
    have hfin : GivesTys w (argTypesL xs ⟨(d : Int), t2⟩ (m : Int)) (.returned v5) w5 := by
      rw [hf.out]
      exact ⟨v5, F5, rfl, hB4.trans (hB5.mono hB4.size), ha5, hfr5, fun b hb => ⟨Nat.le_trans hB4.size (hfs5 b hb).1, (hfs5 b hb).2⟩⟩
    have HFin := Lib.hid hfin
    clear hfin hB5 ha5 hfr5 hfs5
    go_wp2
    go_ret
    exact HFin.out
set_option maxRecDepth 100000 in
set_option maxHeartbeats 1600000 in
theorem impl_ArgTypes (xs : List Dt) (t : Ty) (n : Int) (w : World) (v : Value) (F : List Nat) (hx : Arr w (DtR w) xs v F) (hf : Under w.heap.size F) :
    Calls Try.prog 20 #[v, .agg #[.int .i64 t.d, .int .i64 t.i], .int .i64 n] w (GivesTys w (argTypesL xs t n)) := by
  obtain ⟨A, cap, rfl, hc1, hc2⟩ := hx.form
  have HX := Lib.hid hx
  have HF := Lib.hid hf
  clear hx hf
  go_enter Try.func20, Try.ntmps20
  go_wp2_with fail
  obtain ⟨W2, hW2⟩ : ∃ W2, W2 = w.alloc (.cells #[.int .i64 t.d, .int .i64 t.i] 33) := ⟨_, rfl⟩
  have hB2 : Below w.heap.size w W2 := by rw [hW2]; exact (Below.refl _ _).alloc (Nat.le_refl _) _
  have k1 : Blk W2 w.heap.size 33 #[.int .i64 t.d, .int .i64 t.i] := by rw [hW2]; exact Blk.new _ _ _
  rw [← hW2]
  clear hW2
  refine (impl_CtorsOf xs t W2 _ F (ArrDt.below HX.out hB2 HF.out) (HF.out.mono hB2.size)).mono ?_
  rintro e w3 ⟨v3, F3, rfl, hb3, ha3, hfr3, hfs3⟩
  have hB3 := hB2.trans (hb3.mono hB2.size)
  have k3 := k1.same (hb3.block _ k1.lt)
  obtain ⟨A3, cap3, rfl, -, -⟩ := ha3.form
  have HA3 := Lib.hid ha3
  have HU3 := Lib.hid hfs3.under
  clear ha3 hfr3 hfs3
  go_wp2_with fail
  refine (impl_has (ctorsOfL xs t) n w3 _ F3 HA3.out HU3.out).mono ?_
  rintro e w4 ⟨rfl, hb4⟩
  have hB4 := hB3.trans (hb4.mono hB3.size)
  have k4 := k3.same (hb4.block _ k3.lt)
  have x0 : w4.cell? ⟨w.heap.size, 0, none⟩ = some (.int .i64 t.d) := (k4.cell 0).trans (by simp)
  have x1 : w4.cell? ⟨w.heap.size, 1, none⟩ = some (.int .i64 t.i) := (k4.cell 1).trans (by simp)
  have hlt := k4.lt
  clear k1 k3 k4
  cases h1 : hasB (ctorsOfL xs t) n with
  | false =>
    have hf := Lib.hid (argTypesL_no h1)
    clear h1
    go_wp2
    go_ret
    rw [hf.out]
    exact ⟨_, [], rfl, hB4, Arr.nil, Free.nil _, Fresh.nil _ _⟩
  | true =>
    obtain ⟨e1, hw, d, m, hd, hd1, hd2, hm⟩ := argTypesL_yes h1
    obtain ⟨t1, t2⟩ := t
    simp only at hd1
    subst hd1 hd2
    rw [argsOf_get hd hm] at e1
    have hf := Lib.hid e1
    have HL := Lib.hid (hw.ctor hd hm).args
    clear h1 e1 hw
    go_wp2_with fail
    refine (impl_argTypes xs d m t2 hd hm w4 _ F (ArrDt.below HX.out hB4 HF.out) (HF.out.mono hB4.size) HL.out).mono ?_
    rintro e w5 ⟨v5, F5, rfl, hB5, ha5, hfr5, hfs5⟩
    have hfin : GivesTys w (argTypesL xs ⟨(d : Int), t2⟩ (m : Int)) (.returned v5) w5 := by
      rw [hf.out]
      exact ⟨v5, F5, rfl, hB4.trans (hB5.mono hB4.size), ha5, hfr5, fun b hb => ⟨Nat.le_trans hB4.size (hfs5 b hb).1, (hfs5 b hb).2⟩⟩
    have HFin := Lib.hid hfin
    clear hfin hB5 ha5 hfr5 hfs5
    go_wp2
    go_ret
    exact HFin.out
end Go.Proofs.Ytbejcgknjnhdpaa

namespace Go.Proofs.Ytbejcgknjnhdpaa
open Go.RowKit

def slotOf (t : Ty) : Nat := t.d.toNat * 4 + t.i.toNat
def tyAt (s : Nat) : Ty := ⟨((s / 4 : Nat) : Int), ((s % 4 : Nat) : Int)⟩
/-- the depth that a table has for a type, 0 for none -/
def depthIn (tab : List Int) (t : Ty) : Int := if t.d = -1 then 1 else tab.getD (slotOf t) 0
def mostGo (tab : List Int) : Int → List Ty → Int
  | m, [] => m + 1
  | m, a :: ls => if depthIn tab a = 0 then 0 else mostGo tab (max m (depthIn tab a)) ls
def mostIn (xs : List Dt) (tab : List Int) (t : Ty) (k : Int) : Int := mostGo tab 0 (argsOf xs t k)
/-- one constructor of slot s looked at -/
def better (tab : List Int) (s : Nat) (n : Int) : Bool := decide (0 < n) && (decide (tab.getD s 0 = 0) || decide (n < tab.getD s 0))
def putIf (tab : List Int) (s : Nat) (n : Int) : List Int := if better tab s n = true then tab.set s n else tab
def slotGo (xs : List Dt) (s : Nat) (tab : List Int) (ks : List Int) : List Int := ks.foldl (fun tab k => putIf tab s (mostIn xs tab (tyAt s) k)) tab
def sweepTo (xs : List Dt) (tab : List Int) (s : Nat) : List Int := (List.range s).foldl (fun tab s => slotGo xs s tab (ctorsL xs (tyAt s))) tab
def sweep (xs : List Dt) (tab : List Int) : List Int := sweepTo xs tab (xs.length * 4)
def sweeps (xs : List Dt) : Nat → List Int
  | 0 => List.replicate (xs.length * 4) 0
  | n + 1 => sweep xs (sweeps xs n)
def tableL (xs : List Dt) : List Int := sweeps xs (xs.length * 4 + 1)

theorem putIf_length (tab : List Int) (s : Nat) (n : Int) : (putIf tab s n).length = tab.length := by unfold putIf; split <;> simp
theorem slotGo_nil (xs : List Dt) (s : Nat) (tab : List Int) : slotGo xs s tab [] = tab := rfl
theorem slotGo_cons (xs : List Dt) (s : Nat) (tab : List Int) (k : Int) (ks : List Int) : slotGo xs s tab (k :: ks) = slotGo xs s (putIf tab s (mostIn xs tab (tyAt s) k)) ks := rfl
theorem slotGo_snoc (xs : List Dt) (s : Nat) (tab : List Int) (ks : List Int) (k : Int) : slotGo xs s tab (ks ++ [k]) = putIf (slotGo xs s tab ks) s (mostIn xs (slotGo xs s tab ks) (tyAt s) k) := by
  unfold slotGo; rw [List.foldl_append]; rfl
theorem slotGo_length (xs : List Dt) (s : Nat) : ∀ (ks : List Int) (tab : List Int), (slotGo xs s tab ks).length = tab.length
  | [], tab => rfl
  | k :: ks, tab => by rw [slotGo_cons, slotGo_length xs s ks, putIf_length]
theorem sweepTo_zero (xs : List Dt) (tab : List Int) : sweepTo xs tab 0 = tab := rfl
theorem sweepTo_succ (xs : List Dt) (tab : List Int) (s : Nat) : sweepTo xs tab (s + 1) = slotGo xs s (sweepTo xs tab s) (ctorsL xs (tyAt s)) := by
  unfold sweepTo; rw [List.range_succ, List.foldl_append]; rfl
theorem sweepTo_length (xs : List Dt) (tab : List Int) : ∀ s, (sweepTo xs tab s).length = tab.length
  | 0 => rfl
  | s + 1 => by rw [sweepTo_succ, slotGo_length, sweepTo_length xs tab s]
theorem sweeps_length (xs : List Dt) : ∀ n, (sweeps xs n).length = xs.length * 4
  | 0 => by simp [sweeps]
  | n + 1 => by show (sweepTo xs _ _).length = _; rw [sweepTo_length, sweeps_length xs n]

/-! ### Types with a value of a depth -/
def hasD (xs : List Dt) : Nat → Ty → Prop
  | 0, _ => False
  | n + 1, t => t.d = -1 ∨ ∃ k ∈ ctorsL xs t, ∀ a ∈ argsOf xs t k, hasD xs n a
theorem hasD_mono {xs : List Dt} : ∀ {n : Nat} {t : Ty}, hasD xs n t → hasD xs (n + 1) t
  | 0, _, h => h.elim
  | n + 1, t, h => by
    rcases h with h | ⟨k, hk, h⟩
    · exact .inl h
    · exact .inr ⟨k, hk, fun a ha => hasD_mono (h a ha)⟩
theorem hasD_le {xs : List Dt} {n m : Nat} {t : Ty} (h : hasD xs n t) (hm : n ≤ m) : hasD xs m t := by
  induction hm with
  | refl => exact h
  | step _ ih => exact hasD_mono ih
/-- a type of values in the world -/
def TyIn (n : Nat) (t : Ty) : Prop := t.d = -1 ∨ ∃ d i : Nat, t = ⟨(d : Int), (i : Int)⟩ ∧ d < n ∧ i < 4
theorem TyIn.inWorld {n : Nat} {t : Ty} (h : TyIn n t) : InWorld n t := by
  rcases h with h | ⟨d, i, rfl, h1, h2⟩
  · exact .inl h
  · exact .inr ⟨d, rfl, h1⟩
theorem typeOkB_tyIn {n : Nat} {t : Ty} (h : typeOkB n t = true) : TyIn n t := by
  unfold typeOkB at h
  by_cases e : t.d = -1
  · exact .inl e
  · rw [if_neg e] at h
    simp [withinB] at h
    refine .inr ⟨t.d.toNat, t.i.toNat, ?_, by omega, by omega⟩
    obtain ⟨t1, t2⟩ := t
    simp only at h ⊢
    congr 1 <;> omega
theorem slotOf_mk (d i : Nat) : slotOf ⟨(d : Int), (i : Int)⟩ = d * 4 + i := by unfold slotOf; simp
theorem tyAt_mk {d i : Nat} (h : i < 4) : tyAt (d * 4 + i) = ⟨(d : Int), (i : Int)⟩ := by
  unfold tyAt
  rw [show (d * 4 + i) / 4 = d by omega, show (d * 4 + i) % 4 = i by omega]
theorem TyIn.slot {n : Nat} {t : Ty} (h : TyIn n t) (hd : ¬ t.d = -1) : slotOf t < n * 4 ∧ tyAt (slotOf t) = t := by
  rcases h with h | ⟨d, i, rfl, h1, h2⟩
  · exact absurd h hd
  · rw [slotOf_mk, tyAt_mk h2]
    exact ⟨by omega, rfl⟩
theorem tyAt_in {n s : Nat} (h : s < n * 4) : TyIn n (tyAt s) := .inr ⟨s / 4, s % 4, rfl, by omega, by omega⟩
theorem tyAt_slot (s : Nat) : slotOf (tyAt s) = s := by
  unfold tyAt
  rw [slotOf_mk]
  omega
theorem tyAt_not (s : Nat) : ¬ (tyAt s).d = -1 := by unfold tyAt; simp only; omega
theorem argTy_in {n : Nat} {c : Kt} (hc : KtOk n c) {i : Int} (h0 : 0 ≤ i) (h3 : i ≤ 3) {a : Ty} (ha : a ∈ argsL c i) : TyIn n a := by
  unfold argsL at ha
  obtain ⟨b, hb, rfl⟩ := List.mem_map.1 ha
  have hok := hc.all b hb
  have hr : 0 ≤ resIdx c i ∧ resIdx c i ≤ 3 := by
    unfold resIdx
    split
    · exact ⟨h0, h3⟩
    · exact ⟨hc.lo, hc.hi⟩
  unfold argOkB at hok
  cases q : (b.i == -1) with
  | true =>
    rw [argTy_yes q]
    by_cases e : b.d = -1
    · exact .inl e
    · rw [if_neg e] at hok
      simp [withinB] at hok
      refine .inr ⟨b.d.toNat, (resIdx c i).toNat, ?_, by omega, by omega⟩
      congr 1 <;> omega
  | false =>
    rw [argTy_no q]
    have q' : ¬ b.i = -1 := by simpa using q
    by_cases e : b.d = -1
    · exact .inl e
    · rw [if_neg e] at hok
      simp [withinB] at hok
      refine .inr ⟨b.d.toNat, b.i.toNat, ?_, by omega, by omega⟩
      obtain ⟨b1, b2⟩ := b
      simp only at hok q' ⊢
      congr 1 <;> omega
theorem argsOf_in {xs : List Dt} (hw : WorldOK xs) {t : Ty} (ht : TyIn xs.length t) {k : Int} (hk : k ∈ ctorsL xs t) {a : Ty} (ha : a ∈ argsOf xs t k) : TyIn xs.length a := by
  rcases ht with h | ⟨d, i, rfl, h1, h2⟩
  · rw [ctorsL_int h] at hk; cases hk
  · obtain ⟨d', m, e1, rfl, hd, hm⟩ := mem_ctorsL (.inr ⟨d, rfl, h1⟩) hk
    obtain rfl : d = d' := Int.ofNat.inj e1
    rw [argsOf_get hd hm] at ha
    exact argTy_in (hw.ctor hd hm) (by omega) (by omega) ha

/-! ### What an entry says -/
theorem mostGo_zero {tab : List Int} : ∀ {ls : List Ty} {m : Int}, 0 ≤ m → mostGo tab m ls = 0 → ∃ a ∈ ls, depthIn tab a = 0
  | [], m, h0, h => by simp only [mostGo] at h; omega
  | a :: ls, m, h0, h => by
    simp only [mostGo] at h
    split at h
    · rename_i e; exact ⟨a, by simp, e⟩
    · obtain ⟨b, hb, e⟩ := mostGo_zero (by omega) h
      exact ⟨b, by simp [hb], e⟩
theorem mostGo_pos {tab : List Int} (hp : ∀ a, 0 ≤ depthIn tab a) : ∀ {ls : List Ty} {m : Int}, 0 ≤ m → (∀ a ∈ ls, depthIn tab a ≠ 0) → m < mostGo tab m ls ∧ ∀ a ∈ ls, depthIn tab a < mostGo tab m ls
  | [], m, h0, _ => by simp only [mostGo]; exact ⟨by omega, fun a h => by cases h⟩
  | a :: ls, m, h0, h => by
    simp only [mostGo]
    rw [if_neg (h a (by simp))]
    have h1 := mostGo_pos hp (m := max m (depthIn tab a)) (ls := ls) (by omega) fun b hb => h b (by simp [hb])
    refine ⟨by omega, fun b hb => ?_⟩
    rcases List.mem_cons.1 hb with rfl | hb
    · omega
    · exact h1.2 b hb
theorem mostGo_ne {tab : List Int} : ∀ {ls : List Ty} {m : Int}, mostGo tab m ls ≠ 0 → ∀ a ∈ ls, depthIn tab a ≠ 0
  | [], _, _, a, h => by cases h
  | a :: ls, m, h, b, hb => by
    simp only [mostGo] at h
    split at h
    · exact absurd rfl h
    · rename_i e
      rcases List.mem_cons.1 hb with rfl | hb
      · exact e
      · exact mostGo_ne h b hb
theorem mostGo_le {tab : List Int} {N : Int} : ∀ {ls : List Ty} {m : Int}, m ≤ N → (∀ a ∈ ls, depthIn tab a ≠ 0 ∧ depthIn tab a ≤ N) → mostGo tab m ls ≤ N + 1
  | [], m, h0, _ => by simp only [mostGo]; omega
  | a :: ls, m, h0, h => by
    simp only [mostGo]
    rw [if_neg (h a (by simp)).1]
    exact mostGo_le (by have := (h a (by simp)).2; omega) fun b hb => h b (by simp [hb])

/-- a table that is right so far: every entry that is not 0 is the depth of some value -/
structure Sound (xs : List Dt) (tab : List Int) : Prop where
  pos : ∀ s, 0 ≤ tab.getD s 0
  has : ∀ s, s < xs.length * 4 → tab.getD s 0 ≠ 0 → hasD xs (tab.getD s 0).toNat (tyAt s)
  len : tab.length = xs.length * 4
theorem Sound.dpos {xs : List Dt} {tab : List Int} (h : Sound xs tab) (a : Ty) : 0 ≤ depthIn tab a := by
  unfold depthIn; split
  · omega
  · exact h.pos _
theorem Sound.dhas {xs : List Dt} {tab : List Int} (h : Sound xs tab) {a : Ty} (ha : TyIn xs.length a) (hn : depthIn tab a ≠ 0) : hasD xs (depthIn tab a).toNat a := by
  unfold depthIn at hn ⊢
  split
  · rename_i e; exact .inl e
  · rename_i e
    rw [if_neg e] at hn
    obtain ⟨h1, h2⟩ := ha.slot e
    have := h.has _ h1 hn
    rwa [h2] at this
theorem getD_set (tab : List Int) (s r : Nat) (n : Int) (hs : s < tab.length) : (tab.set s n).getD r 0 = if r = s then n else tab.getD r 0 := by
  unfold List.getD
  by_cases h : r = s
  · subst h; rw [if_pos rfl, List.getElem?_set_self hs]; rfl
  · rw [if_neg h, List.getElem?_set_ne (fun e => h e.symm)]
theorem better_iff {tab : List Int} {s : Nat} {n : Int} : better tab s n = true ↔ 0 < n ∧ (tab.getD s 0 = 0 ∨ n < tab.getD s 0) := by
  unfold better; simp
theorem Sound.put {xs : List Dt} (hw : WorldOK xs) {tab : List Int} (h : Sound xs tab) {s : Nat} (hs : s < xs.length * 4) {k : Int} (hk : k ∈ ctorsL xs (tyAt s)) : Sound xs (putIf tab s (mostIn xs tab (tyAt s) k)) := by
  unfold putIf
  split
  · rename_i hb
    obtain ⟨h1, h2⟩ := better_iff.1 hb
    have hs' : s < tab.length := by rw [h.len]; exact hs
    refine ⟨fun r => ?_, fun r hr hne => ?_, by rw [List.length_set]; exact h.len⟩
    · rw [getD_set _ _ _ _ hs']; split
      · omega
      · exact h.pos r
    · rw [getD_set _ _ _ _ hs'] at hne ⊢
      split at hne
      · rename_i e
        subst e
        rw [if_pos rfl]
        have hne2 : mostGo tab 0 (argsOf xs (tyAt r) k) ≠ 0 := by unfold mostIn at h1; omega
        have hd := mostGo_ne hne2
        have hp := mostGo_pos h.dpos (m := 0) (by omega) hd
        obtain ⟨n, hn⟩ : ∃ n : Nat, (mostIn xs tab (tyAt r) k).toNat = n + 1 := ⟨(mostIn xs tab (tyAt r) k).toNat - 1, by omega⟩
        rw [hn]
        refine .inr ⟨k, hk, fun a ha => ?_⟩
        have hai := argsOf_in hw (tyAt_in hr) hk ha
        refine hasD_le (h.dhas hai (hd a ha)) ?_
        have := hp.2 a ha
        unfold mostIn at hn
        omega
      · rename_i e
        rw [if_neg e]
        exact h.has r hr hne
  · exact h
theorem Sound.slot {xs : List Dt} (hw : WorldOK xs) {s : Nat} (hs : s < xs.length * 4) : ∀ {ks : List Int} {tab : List Int}, (∀ k ∈ ks, k ∈ ctorsL xs (tyAt s)) → Sound xs tab → Sound xs (slotGo xs s tab ks)
  | [], tab, _, h => h
  | k :: ks, tab, hk, h => by
    rw [slotGo_cons]
    exact Sound.slot hw hs (fun x hx => hk x (by simp [hx])) (h.put hw hs (hk k (by simp)))
theorem Sound.to {xs : List Dt} (hw : WorldOK xs) {tab : List Int} (h : Sound xs tab) : ∀ {s : Nat}, s ≤ xs.length * 4 → Sound xs (sweepTo xs tab s)
  | 0, _ => h
  | s + 1, hs => by rw [sweepTo_succ]; exact Sound.slot hw (by omega) (fun k hk => hk) (Sound.to hw h (by omega))
theorem sound_sweeps {xs : List Dt} (hw : WorldOK xs) : ∀ n, Sound xs (sweeps xs n)
  | 0 => ⟨fun s => by simp only [sweeps, List.getD]; rcases Nat.lt_or_ge s (xs.length * 4) with h | h <;> simp [h], fun s hs hn => by simp [sweeps, List.getD, hs] at hn, by simp [sweeps]⟩
  | n + 1 => (sound_sweeps hw n).to hw (Nat.le_refl _)

/-! ### Entries become no worse -/
def Le (t t' : List Int) : Prop := ∀ s, t.getD s 0 ≠ 0 → t'.getD s 0 ≠ 0 ∧ t'.getD s 0 ≤ t.getD s 0
theorem Le.refl (t : List Int) : Le t t := fun s h => ⟨h, Int.le_refl _⟩
theorem Le.trans {a b c : List Int} (h : Le a b) (k : Le b c) : Le a c := fun s hs => ⟨(k s (h s hs).1).1, Int.le_trans (k s (h s hs).1).2 (h s hs).2⟩
theorem le_put (tab : List Int) (s : Nat) (hs : s < tab.length) (n : Int) : Le tab (putIf tab s n) := by
  unfold putIf
  split
  · rename_i hb
    obtain ⟨h1, h2⟩ := better_iff.1 hb
    intro r hr
    rw [getD_set _ _ _ _ hs]
    split
    · rename_i e; subst e; exact ⟨by omega, by omega⟩
    · exact ⟨hr, Int.le_refl _⟩
  · exact Le.refl _
theorem le_slot (xs : List Dt) (s : Nat) : ∀ (ks : List Int) (tab : List Int), s < tab.length → Le tab (slotGo xs s tab ks)
  | [], tab, _ => Le.refl _
  | k :: ks, tab, hs => by
    rw [slotGo_cons]
    exact (le_put tab s hs _).trans (le_slot xs s ks _ (by rw [putIf_length]; exact hs))
theorem le_to (xs : List Dt) (tab : List Int) : ∀ (s : Nat), s ≤ tab.length → Le tab (sweepTo xs tab s)
  | 0, _ => Le.refl _
  | s + 1, hs => by rw [sweepTo_succ]; exact (le_to xs tab s (by omega)).trans (le_slot xs s _ _ (by rw [sweepTo_length]; omega))
theorem le_step (xs : List Dt) (tab : List Int) (r : Nat) : ∀ (s : Nat), r ≤ s → s ≤ tab.length → Le (sweepTo xs tab r) (sweepTo xs tab s) := by
  intro s hr
  induction hr with
  | refl => intro _; exact Le.refl _
  | step hr ih => intro hs; rw [sweepTo_succ]; exact (ih (by omega)).trans (le_slot xs _ _ _ (by rw [sweepTo_length]; omega))

/-- every type with a value of depth n at most has an entry of n at most -/
def Done (xs : List Dt) (tab : List Int) (n : Nat) : Prop := ∀ s, s < xs.length * 4 → hasD xs n (tyAt s) → tab.getD s 0 ≠ 0 ∧ tab.getD s 0 ≤ n
theorem Done.le {xs : List Dt} {t t' : List Int} {n : Nat} (h : Done xs t n) (hl : Le t t') : Done xs t' n := fun s hs hh => ⟨(hl s (h s hs hh).1).1, Int.le_trans (hl s (h s hs hh).1).2 (h s hs hh).2⟩
theorem put_done {tab : List Int} {s : Nat} (hs : s < tab.length) (hp : 0 ≤ tab.getD s 0) {n : Int} (h0 : 0 < n) : (putIf tab s n).getD s 0 ≠ 0 ∧ (putIf tab s n).getD s 0 ≤ n := by
  unfold putIf
  split
  · rename_i hb
    rw [getD_set _ _ _ _ hs, if_pos rfl]; omega
  · rename_i hb
    have : ¬ (0 < n ∧ (tab.getD s 0 = 0 ∨ n < tab.getD s 0)) := fun h => hb (better_iff.2 h)
    omega
theorem slot_done {xs : List Dt} (hw : WorldOK xs) {n s : Nat} (hs : s < xs.length * 4) {k0 : Int} (ha : ∀ a ∈ argsOf xs (tyAt s) k0, hasD xs n a) : ∀ {ks : List Int} {tab : List Int}, (∀ k ∈ ks, k ∈ ctorsL xs (tyAt s)) → k0 ∈ ks → Sound xs tab → Done xs tab n → (slotGo xs s tab ks).getD s 0 ≠ 0 ∧ (slotGo xs s tab ks).getD s 0 ≤ n + 1
  | [], tab, _, h, _, _ => by cases h
  | k :: ks, tab, hks, hk, hsd, hd => by
    have hsl : s < tab.length := by rw [hsd.len]; exact hs
    rw [slotGo_cons]
    by_cases e : k0 = k
    · subst e
      have hk0 := hks k0 (by simp)
      have hall : ∀ a ∈ argsOf xs (tyAt s) k0, depthIn tab a ≠ 0 ∧ depthIn tab a ≤ n := fun a hm => by
        have hai := argsOf_in hw (tyAt_in hs) hk0 hm
        unfold depthIn
        split
        · have := ha a hm
          cases n with
          | zero => exact this.elim
          | succ n => omega
        · rename_i hne
          obtain ⟨q1, q2⟩ := hai.slot hne
          exact hd _ q1 (by rw [q2]; exact ha a hm)
      have h1 := mostGo_pos hsd.dpos (m := 0) (by omega) fun a hm => (hall a hm).1
      have h2 := mostGo_le (N := n) (m := 0) (by omega) hall
      have h3 := put_done hsl (hsd.pos s) (n := mostIn xs tab (tyAt s) k0) h1.1
      have h4 := le_slot xs s ks (putIf tab s (mostIn xs tab (tyAt s) k0)) (by rw [putIf_length]; exact hsl) s h3.1
      have h5 : mostIn xs tab (tyAt s) k0 ≤ n + 1 := h2
      exact ⟨h4.1, by omega⟩
    · have hk' : k0 ∈ ks := by
        rcases List.mem_cons.1 hk with h | h
        · exact absurd h e
        · exact h
      exact slot_done hw hs ha (fun x hx => hks x (by simp [hx])) hk' (hsd.put hw hs (hks k (by simp))) (hd.le (le_put tab s hsl _))
theorem sweep_done {xs : List Dt} (hw : WorldOK xs) {tab : List Int} {n : Nat} (hsd : Sound xs tab) (hd : Done xs tab n) : Done xs (sweep xs tab) (n + 1) := by
  intro s hs hh
  rcases hh with h | ⟨k, hk, ha⟩
  · exact absurd h (tyAt_not s)
  · have h1 := slot_done hw hs ha (fun k hk => hk) hk (hsd.to hw (by omega : s ≤ xs.length * 4)) (hd.le (le_to xs tab s (by rw [hsd.len]; omega)))
    rw [← sweepTo_succ] at h1
    have h2 := le_step xs tab (s + 1) (xs.length * 4) (by omega) (by rw [hsd.len]; omega) s h1.1
    exact ⟨h2.1, by show (sweepTo xs tab (xs.length * 4)).getD s 0 ≤ _; omega⟩
theorem done_sweeps {xs : List Dt} (hw : WorldOK xs) : ∀ n, Done xs (sweeps xs n) n
  | 0 => fun s _ h => h.elim
  | n + 1 => sweep_done hw (sound_sweeps hw n) (done_sweeps hw n)
theorem le_sweeps {xs : List Dt} (n : Nat) : Le (sweeps xs n) (sweeps xs (n + 1)) := le_to xs _ _ (by rw [sweeps_length]; exact Nat.le_refl _)
theorem le_sweeps' {xs : List Dt} {n m : Nat} (h : n ≤ m) : Le (sweeps xs n) (sweeps xs m) := by
  induction h with
  | refl => exact Le.refl _
  | step _ ih => exact ih.trans (le_sweeps _)
end Go.Proofs.Ytbejcgknjnhdpaa
