/-
  Lemmas and contracts of functions: l1Copy of the reference: a deep copy of a world. Conditions: no list of it is longer than 100. l1Mutate of the reference: a copy of a world, sometimes made invalid. Conditions: its lists are short; the reader has given no more than 900000 numbers. Drawn worlds and types. Conditions: none. Values as Lean data, and how they lie in memory. Conditions: none. argTypes of the program. Conditions: the constructor is one of the world. l1Args of the reference. Conditions: the constructor is one of the world. ctorsOf of the program: the constructors that can make values of a type. Conditions: the type lies in the world, the world is not too large. ctorOk of the program: a constructor within the limits, by slices.ContainsFunc and a closure. Conditions: none. A look-up in a map whose elements are booleans, as an equation. Conditions: none.
-/
import Derived.Test.YtilndhmegaccmaaKAB
import Derived.Deep.RegionWith
import Derived.Test.YtilndhmegaccmaaKAC
import Derived.Test.YtilndhmegaccmaaKAA
import Derived.Test.YtilndhmegaccmaaChecked
import Derived.Laws.EntriesVeiled
import Derived.Maps.OwnOps
import Derived.Maps.Views

set_option linter.unusedVariables false
set_option linter.unusedSimpArgs false

namespace Go.Proofs.Ytilndhmegaccmaa
open Go.RowKit

def dtk (xs : List Dt) (d : Nat) : List Dt := xs.take d
def ktk (cs : List Kt) (k : Nat) : List Kt := cs.take k
theorem dtk_len (xs : List Dt) (d : Nat) : (dtk xs d).length ≤ d := by unfold dtk; rw [List.length_take]; omega
theorem ktk_len (cs : List Kt) (k : Nat) : (ktk cs k).length ≤ k := by unfold ktk; rw [List.length_take]; omega
theorem dtk_succ (xs : List Dt) (d : Nat) (h : d < xs.length) : dtk xs (d + 1) = dtk xs d ++ [xs[d]] := take_snoc' xs d h
theorem ktk_succ (cs : List Kt) (k : Nat) (h : k < cs.length) : ktk cs (k + 1) = ktk cs k ++ [cs[k]] := take_snoc' cs k h
theorem dtk_all (xs : List Dt) {d : Nat} (h : xs.length ≤ d) : dtk xs d = xs := List.take_of_length_le h
theorem ktk_all (cs : List Kt) {k : Nat} (h : cs.length ≤ k) : ktk cs k = cs := List.take_of_length_le h
theorem Own.free_row {α : Type} {w : World} {B k : Nat} {E : TypeId} {R : World → α → List Value → List Nat → Prop} {xs : List α} {v : Value} {F : List Nat} (h : Own w B E k R xs v F) : Free w (rowOf v) := by
  obtain ⟨cs, h1, -⟩ := h
  rcases h1.2 with ⟨rfl, -⟩ | ⟨g, cap, cur, rfl, hb, hg, -⟩
  · exact Free.nil _
  · rw [rowOf_some]
    exact ⟨by simp, fun b hb' i => by rw [List.mem_singleton] at hb'; subst hb'; simp [World.frozen?, hg]⟩
theorem TyR_one (w : World) (x : Ty) (cs : List Value) (G : List Nat) (h : TyR w x cs G) : ∀ u ∈ cs, u.oneCell' = true := by
  obtain ⟨rfl, -⟩ := h
  simp [Value.oneCell']
theorem wpList_append_run {P : Program} {w : World} {ops : Array Oper} {rest : List Oper} {o : Oper} {a : Act} {Q : Exit → Act → World → Prop} (hgd : o.guard = none) (s x : Operand) (t : TypeId)
    (ho : o.op = .call { callee := .builtin .append, args := #[s, x], argTypes := #[t, t] }) {sv xv v' : Value} {w' : World} (hs : a.eval s = sv) (hx : a.eval x = xv)
    (hr : (Builtin.append_ #[t, t] o.type #[sv, xv]).run P w = .ok v' w') (h : wpList P ops Q rest (a.put o.dst v') w') : wpList P ops Q (o :: rest) a w := by
  refine wpList_plain hgd fun K hK => ?_
  unfold Oper.wp execOp
  simp only [ho, resolve, invoke, builtin, Sem.run_bind, Sem.run_pure, Result.andThen_ok, List.map_toArray, List.map_cons, List.map_nil, hs, hx, hr]
  exact hK _ _ h
set_option maxRecDepth 100000 in
set_option maxHeartbeats 6400000 in
theorem spec_l1Copy (xs : List Dt) (w : World) (v : Value) (F : List Nat) (hx : Arr w (DtR w) xs v F) (hf : Under w.heap.size F) (hl : xs.length ≤ 100) (hsm : SmallW 100 xs) :
    Calls Try.prog 100 #[v] w fun e w' => ∃ v' F', e = .returned v' ∧ Below w.heap.size w w' ∧ Own w' w.heap.size 97 2 DtO xs v' F' ∧ Free w' F' ∧ (∀ b ∈ F', w.heap.size + 1 ≤ b) := by
  obtain ⟨A, cap, rfl, hc1, hc2⟩ := hx.form
  obtain ⟨i0, hi, hz0, hz1, hz2⟩ := info_parts info_KtE
  have HI := Lib.hid hi
  have HZ0 := Lib.hid hz0
  have HZ1 := Lib.hid hz1
  have HZ2 := Lib.hid hz2
  clear hi hz0 hz1 hz2
  obtain ⟨j0, hj, hj0, hj1, hj2⟩ := info_parts info_tyE
  have HJ := Lib.hid hj
  have HJ0 := Lib.hid hj0
  have HJ1 := Lib.hid hj1
  have HJ2 := Lib.hid hj2
  clear hj hj0 hj1 hj2
  obtain ⟨m0, hm, hm0, hm1, hm2⟩ := info_parts info_DtE
  have HM := Lib.hid hm
  have HM0 := Lib.hid hm0
  have HM1 := Lib.hid hm1
  have HM2 := Lib.hid hm2
  clear hm hm0 hm1 hm2
  have HSM := Lib.hid hsm
  have HX := Lib.hid hx
  have HF := Lib.hid hf
  clear hx hf
  clear hsm
  go_enter Try.func100, Try.ntmps100
  go_wp2
  have hB1 : Below w.heap.size w (w.alloc (.cells #[] 97)) := (Below.refl _ _).alloc (Nat.le_refl _) _
  have HO1 : Hid (Own (w.alloc (.cells #[] 97)) w.heap.size 97 2 DtO (dtk xs 0) (.slice (some ⟨w.heap.size, 0, none⟩) 0 0) []) := Own.made w w.heap.size 97 2 DtO #[] 0 (Nat.le_refl _) (by simp [maxLen]) rfl
  have hw1 : (w.alloc (.cells #[] 97)).heap.size = w.heap.size + 1 := World.size_alloc _ _
  obtain ⟨w1, hw1e⟩ : ∃ w1, w1 = w.alloc (.cells #[] 97) := ⟨_, rfl⟩
  rw [← hw1e] at hB1 HO1 hw1 ⊢
  clear hw1e
  go_loopw [3, 4] (fun ov dv wr => ∃ d : Nat, ∃ Fo : List Nat, d ≤ xs.length ∧ dv = .int .i64 d ∧ Hid (Own wr w.heap.size 97 2 DtO (dtk xs d) ov Fo) ∧ Hid (Free wr Fo) ∧ Hid (∀ b ∈ Fo, w1.heap.size ≤ b) ∧ Hid (Chg [w.heap.size] w1 wr) ∧ Below w.heap.size w wr ∧ w1.heap.size ≤ wr.heap.size) (fun _ dv _ => xs.length - (intOf dv).toNat)
  case atStart => exact ⟨0, [], Nat.zero_le _, rfl, HO1, Free.nil _, (fun b hb => by cases hb), Chg.refl _ _, hB1, Nat.le_refl _⟩
  case round =>
    clear hB1 HO1
    obtain ⟨d, Fo, hd, rfl, HO, HFr, HFh, HC, hB, hwr⟩ := hrel
    by_cases hdl : d < xs.length
    · obtain ⟨b, off, rfl⟩ := HX.out.ptr (by omega)
      have g1 : (0 : Int) ≤ (d : Int) := by omega
      have g2 : (d : Int) < (xs.length : Int) := by omega
      obtain ⟨A1, cap1, G1, hbw, c0w, c1w, HK, HG, hns, hn1, hn2⟩ := ArrDt.at HX.out HF.out (Below.refl _ _) d hdl
      have c0 := (hB.cell (p := ⟨b, off + d * 2, none⟩) hbw).trans c0w
      have hb : b < wr.heap.size := Nat.lt_of_lt_of_le hbw hB.size
      have hcl : xs[d].ctors.length ≤ 100 := (HSM.out _ (List.getElem_mem hdl)).1
      have hdk := dtk_len xs d
      have HB8 : Hid (∀ b ∈ rowOf u3 ++ Fo, b < wr.heap.size) := fun b hb => by
        rcases List.mem_append.1 hb with h | h
        · exact (HO.out.row b h).2
        · exact HO.out.under b h
      obtain ⟨w8, hw8⟩ : ∃ w8, w8 = wr := ⟨_, rfl⟩
      rw [← hw8] at HO HFr HC hB hwr c0 hb HB8 ⊢
      clear hw8
      have hw9 : Below w8.heap.size w8 (w8.alloc (.cells #[.string xs[d].name, .slice none 0 0] 97)) := (Below.refl _ _).alloc (Nat.le_refl _) _
      have HO9 : Hid (Own (w8.alloc (.cells #[.string xs[d].name, .slice none 0 0] 97)) w.heap.size 97 2 DtO (dtk xs d) u3 Fo) := HO.out.below (fun x cs G hk h => DtO_mono _ _ x cs G hk h) hw9
      have HFr9 : Hid (Free (w8.alloc (.cells #[.string xs[d].name, .slice none 0 0] 97)) Fo) := HFr.out.kept (.of_below hw9 HO.out.under)
      have HC9 : Hid (Chg [w.heap.size] w1 (w8.alloc (.cells #[.string xs[d].name, .slice none 0 0] 97))) := HC.out.step hw9
      have KD9 : Hid (Blk (w8.alloc (.cells #[.string xs[d].name, .slice none 0 0] 97)) w8.heap.size 97 #[.string xs[d].name, .slice none 0 0]) := Blk.new _ _ _
      have hB9 := hB.trans (hw9.mono hB.size)
      have hw9s : (w8.alloc (.cells #[.string xs[d].name, .slice none 0 0] 97)).heap.size = w8.heap.size + 1 := World.size_alloc _ _
      have hHD8 : w.heap.size ≤ w8.heap.size := hB.size
      have HR : Hid (∀ g ∈ rowOf u3, g = w.heap.size ∨ w1.heap.size ≤ g) := fun g hg => by have := (HO.out.row g hg).1; omega
      go_wp2
      obtain ⟨w9, hw9e⟩ : ∃ w9, w9 = w8.alloc (.cells #[.string xs[d].name, .slice none 0 0] 97) := ⟨_, rfl⟩
      rw [← hw9e] at HO9 HFr9 HC9 KD9 hB9 hw9s ⊢
      clear hw9 hw9e HO HFr HC hB c0 hb
      go_loopw [6] (fun kv' wr => ∃ k : Nat, ∃ kv : Value, ∃ Fk : List Nat, k ≤ xs[d].ctors.length ∧ kv' = .int .i64 k ∧ Hid (Blk wr w8.heap.size 97 #[.string xs[d].name, kv]) ∧ Hid (Own wr (w8.heap.size + 1) 138 3 KtO (ktk xs[d].ctors k) kv Fk) ∧ Hid (Free wr Fk) ∧ Hid (∀ b ∈ Fk, w8.heap.size + 1 ≤ b) ∧ Hid (Chg [w8.heap.size] w9 wr) ∧ Below w.heap.size w wr ∧ w9.heap.size ≤ wr.heap.size) (fun kv' _ => xs[d].ctors.length - (intOf kv').toNat)
      case atStart => exact ⟨0, _, [], Nat.zero_le _, rfl, KD9, (show Own _ _ _ _ _ (ktk xs[d].ctors 0) _ _ from Own.nil _ _ _ _ _), Free.nil _, (fun b hb => by cases hb), Chg.refl _ _, hB9, Nat.le_refl _⟩
      case round =>
        clear hB9 KD9
        obtain ⟨k, kv, Fk, hkl, rfl, KD, HOk, HFk, HFkh, HCk, hB, hw9r⟩ := hrel
        obtain ⟨kA, kcap, hkv, hkc1, hkc2⟩ := HOk.out.form
        subst hkv
        have z0 : wr.cell? ⟨w8.heap.size, 0, none⟩ = some (.string xs[d].name) := (KD.out.cell 0).trans (by simp)
        have z1 : wr.cell? ⟨w8.heap.size, 1, none⟩ = some (.slice kA (ktk xs[d].ctors k).length kcap) := (KD.out.cell 1).trans (by simp)
        have zf1 := KD.out.frozen 1
        have hkz := KD.out.lt
        have c1 := (hB.cell (p := ⟨b, off + d * 2 + 1, none⟩) hbw).trans c1w
        have hbr : b < wr.heap.size := Nat.lt_of_lt_of_le hbw hB.size
        by_cases hlt : k < xs[d].ctors.length
        · obtain ⟨b2, off2, rfl⟩ := HK.out.ptr (by omega)
          obtain ⟨A3, cap3, G3, hb3, k0, k1, k2, HKT, HG3, hks, hn3, hn4⟩ := ArrKt.rep HK.out HG.out hB k hlt
          have g3 : (0 : Int) ≤ (k : Int) := by omega
          have g4 : (k : Int) < (xs[d].ctors.length : Int) := by omega
          have hal : xs[d].ctors[k].args.length ≤ 100 := (HSM.out _ (List.getElem_mem hdl)).2 _ (List.getElem_mem hlt)
          have hkk := ktk_len xs[d].ctors k
          have harg : Arr w (TyR w) xs[d].ctors[k].args (.slice A3 xs[d].ctors[k].args.length cap3) G3 := by
            obtain ⟨kv, hkv, ha, -⟩ := HKT.out
            have : kv = .slice A3 xs[d].ctors[k].args.length cap3 := by simpa using (List.cons.inj (List.cons.inj hkv).2).1.symm
            rw [← this]; exact ha
          have ha1 : Below wr.heap.size wr (wr.alloc (.cells #[.string xs[d].ctors[k].name, .slice A3 xs[d].ctors[k].args.length cap3, .int .i64 xs[d].ctors[k].idx] 138)) := (Below.refl _ _).alloc (Nat.le_refl _) _
          have ha2 : Below wr.heap.size wr ((wr.alloc (.cells #[.string xs[d].ctors[k].name, .slice A3 xs[d].ctors[k].args.length cap3, .int .i64 xs[d].ctors[k].idx] 138)).alloc (.cells #[] 32)) := ha1.alloc ha1.size _
          have hos : Own ((wr.alloc (.cells #[.string xs[d].ctors[k].name, .slice A3 xs[d].ctors[k].args.length cap3, .int .i64 xs[d].ctors[k].idx] 138)).alloc (.cells #[] 32)) 0 32 2 TyR ([] : List Ty) (.slice (some ⟨wr.heap.size + 1, 0, none⟩) 0 0) [] := by
            have h := Own.made (wr.alloc (.cells #[.string xs[d].ctors[k].name, .slice A3 xs[d].ctors[k].args.length cap3, .int .i64 xs[d].ctors[k].idx] 138)) 0 32 2 TyR #[] 0 (Nat.zero_le _) (by simp [maxLen]) rfl
            rwa [World.size_alloc] at h
          have hKC : Blk ((wr.alloc (.cells #[.string xs[d].ctors[k].name, .slice A3 xs[d].ctors[k].args.length cap3, .int .i64 xs[d].ctors[k].idx] 138)).alloc (.cells #[] 32)) wr.heap.size 138 #[.string xs[d].ctors[k].name, .slice A3 xs[d].ctors[k].args.length cap3, .int .i64 xs[d].ctors[k].idx] := (Blk.new wr _ _).same (Below.heap_alloc _ _ _ (by simp))
          have hsz2 : ((wr.alloc (.cells #[.string xs[d].ctors[k].name, .slice A3 xs[d].ctors[k].args.length cap3, .int .i64 xs[d].ctors[k].idx] 138)).alloc (.cells #[] 32)).heap.size = wr.heap.size + 2 := by simp
          have hAB := ArrTy.below harg (hB.trans (ha2.mono hB.size)) HG3.out
          obtain ⟨v', wc, hrun, hoc, hgc, hrc⟩ := run_append_whole (P := Try.prog) (R := TyR ((wr.alloc (.cells #[.string xs[d].ctors[k].name, .slice A3 xs[d].ctors[k].args.length cap3, .int .i64 xs[d].ctors[k].idx] 138)).alloc (.cells #[] 32))) (RR := TyR) (B := 0) (k := 2) (E := 32) 136 136 j0 _ 16 Try.underlying136 HJ.out HJ0.out HJ1.out HJ2.out rfl (by decide) (fun x cs G h => TyR_len x cs G h) (fun x cs G h => TyR_one _ x cs G h) (fun w' x cs G h => ⟨h.1, rfl⟩) hos hAB (by omega) (by omega) (Nat.zero_le _)
          obtain ⟨vA, vcap, hv', hvc1, hvc2⟩ := hoc.form
          subst hv'
          generalize hwb : ((wr.alloc (.cells #[.string xs[d].ctors[k].name, .slice A3 xs[d].ctors[k].args.length cap3, .int .i64 xs[d].ctors[k].idx] 138)).alloc (.cells #[] 32)) = wb at *
          have kb1 : wb.cell? ⟨wr.heap.size, 1, none⟩ = some (.slice A3 xs[d].ctors[k].args.length cap3) := (hKC.cell 1).trans (by simp)
          have hKCc : Blk wc wr.heap.size 138 #[.string xs[d].ctors[k].name, .slice A3 xs[d].ctors[k].args.length cap3, .int .i64 xs[d].ctors[k].idx] := hKC.same (hgc.block _ (by omega) (fun e => by injection e; omega))
          have hbc : Below wr.heap.size wr wc := ha2.grown hgc (by omega) (fun g hg => by injection hg; omega)
          have hcz : wb.heap.size ≤ wc.heap.size := hgc.size
          have hrw : ∀ x ∈ rowOf (.slice vA xs[d].ctors[k].args.length vcap), wr.heap.size + 1 ≤ x := fun x hx => by rcases hrc x hx with h | h <;> omega
          have hx1 : wc.cell? ⟨w8.heap.size, 1, none⟩ = some (.slice kA (ktk xs[d].ctors k).length kcap) := (hbc.cell hkz).trans z1
          have hxf : wc.frozen? ⟨w8.heap.size, 1, none⟩ = false := (hbc.frozen hkz).trans zf1
          have y0 : wc.cell? ⟨wr.heap.size, 0, none⟩ = some (.string xs[d].ctors[k].name) := (hKCc.cell 0).trans (by simp)
          have y1 : wc.cell? ⟨wr.heap.size, 1, none⟩ = some (.slice A3 xs[d].ctors[k].args.length cap3) := (hKCc.cell 1).trans (by simp)
          have y2 : wc.cell? ⟨wr.heap.size, 2, none⟩ = some (.int .i64 xs[d].ctors[k].idx) := (hKCc.cell 2).trans (by simp)
          have yf1 := hKCc.frozen 1
          have hne : wr.heap.size ≠ w8.heap.size := by omega
          have hcs : wr.heap.size < wc.heap.size := hKCc.lt
          have hBu : Hid (Below wr.heap.size wr (wc.setCell ⟨wr.heap.size, 1, none⟩ (.slice vA xs[d].ctors[k].args.length vcap))) := hbc.setCell (Nat.le_refl _) _
          have hod := Own.set (j := 1) (b := wr.heap.size) TyR_mono' hoc (.slice vA xs[d].ctors[k].args.length vcap) (fun h => by have := hrw _ h; omega) (fun h => by cases h)
          have hrd := hod.row
          have HKO : Hid (KtO (wc.setCell ⟨wr.heap.size, 1, none⟩ (.slice vA xs[d].ctors[k].args.length vcap)) xs[d].ctors[k] [.string xs[d].ctors[k].name, .slice vA xs[d].ctors[k].args.length vcap, .int .i64 xs[d].ctors[k].idx] (rowOf (.slice vA xs[d].ctors[k].args.length vcap))) := ⟨_, rfl, hod, rfl, hks⟩
          have HfrA := Lib.hid hod.free_row
          have HfsA : Hid (∀ b ∈ rowOf (.slice vA xs[d].ctors[k].args.length vcap), wr.heap.size ≤ b ∧ b < (wc.setCell ⟨wr.heap.size, 1, none⟩ (.slice vA xs[d].ctors[k].args.length vcap)).heap.size) := fun b hb => ⟨by have := hrw b hb; omega, (hrd b hb).2⟩
          have HOA : Hid (Own (wc.setCell ⟨wr.heap.size, 1, none⟩ (.slice vA xs[d].ctors[k].args.length vcap)) (w8.heap.size + 1) 138 3 KtO (ktk xs[d].ctors k) (.slice kA (ktk xs[d].ctors k).length kcap) Fk) := HOk.out.below (fun x cs G hk h => KtO_mono _ _ x cs G hk h) hBu.out
          have HF2 := Lib.hid (ktk_succ xs[d].ctors k hlt)
          have HRUN := Lib.hid hrun
          have hbs2 : w8.heap.size + 1 ≤ (wc.setCell ⟨wr.heap.size, 1, none⟩ (.slice vA xs[d].ctors[k].args.length vcap)).heap.size := by have := hBu.out.size; omega
          clear hrun hod hrd hrw hrc hoc hgc hbc hKC hKCc ha1 ha2 hos hAB harg
          go_wp2_with (at_builtin; refine Halt.mk ?_)
          try rw [hwb]
          refine Halt.of (wpList_append_run rfl _ _ 136 rfl (by rfl) (by rfl) HRUN.out ?_)
          go_wp2_with (at_builtin; refine Halt.mk ?_)
          refine Halt.of (wpList_push1 (P := Try.prog) rfl _ _ 95 rfl i0 _ 48 Try.underlying95 HI.out HZ0.out HZ1.out HZ2.out rfl (by decide) KtO_len KtO_mono (by rfl) HOA.out xs[d].ctors[k] 138 [.string xs[d].ctors[k].name, .slice vA xs[d].ctors[k].args.length vcap, .int .i64 xs[d].ctors[k].idx] (rowOf (.slice vA xs[d].ctors[k].args.length vcap)) wc.heap.size (by rfl) (by simp [World.setCell]) (by simp [Value.oneCell']) HKO.out (fun b hb => (HfsA.out b hb).2) (fun g hg hG => Nat.lt_irrefl _ (Nat.lt_of_lt_of_le (HOk.out.row g hg).2 (HfsA.out g hG).1)) (by unfold maxLen; omega) (by omega) hbs2 ?_)
          intro g cp w7 hown7 hgr7 hat7
          have z71 : w7.cell? ⟨w8.heap.size, 1, none⟩ = some (.slice kA (ktk xs[d].ctors k).length kcap) := (World.cell?_of_block (a := ⟨w8.heap.size, 1, none⟩) (grow_old HOk.out hBu.out hgr7 (Nat.lt_succ_self _) hkz)).trans z1
          have zf71 : w7.frozen? ⟨w8.heap.size, 1, none⟩ = false := (World.frozen?_of_block (a := ⟨w8.heap.size, 1, none⟩) (grow_old HOk.out hBu.out hgr7 (Nat.lt_succ_self _) hkz)).trans zf1
          obtain ⟨r1, r2, r3, r4, r5, r6, r7⟩ := grow_round KtO_mono hw9s KD.out HOk.out HFk.out HFkh.out HCk.out hB hHD8 (Nat.le_refl _) hBu.out HfrA.out HfsA.out hown7 hgr7
          have R1 := Lib.hid r1
          have R2 := Lib.hid r2
          have R3 := Lib.hid r3
          have R4 := Lib.hid r4
          have R5 := Lib.hid r5
          have R6 := Lib.hid r6
          clear r1 r2 r3 r4 r5 r6 hown7 hgr7 hat7
          go_wp2
          go_roundw
          case rel => exact ⟨k + 1, _, _, hlt, by go_num, R1, by rw [HF2.out]; exact R2.out, R3, R4, R5, R6.out, r7⟩
          case measure => (simp [intOf] <;> omega)
        · have HF2 := Lib.hid (dtk_succ xs d hdl)
          have hOr : Hid (Own wr w.heap.size 97 2 DtO (dtk xs d) u3 Fo) := Own.mono (w := w9) (fun x cs G hk h => DtO_mono _ _ x cs G hk h) HO9.out (HCk.out.kept (fun b hb => by have := HB8.out b hb; omega) (fun b hb => by have := HB8.out b hb; simp; omega)) HCk.out.size
          have hFrr : Hid (Free wr Fo) := HFr9.out.kept (HCk.out.kept (fun b hb => by have := HB8.out b (List.mem_append.2 (.inr hb)); omega) (fun b hb => by have := HB8.out b (List.mem_append.2 (.inr hb)); simp; omega))
          have hw18 : w1.heap.size ≤ w8.heap.size := hwr
          have hCr : Hid (Chg [w.heap.size] w1 wr) := HC9.out.trans_new HCk.out hw18
          have hka : ktk xs[d].ctors k = xs[d].ctors := ktk_all _ (by omega)
          have harr := HOk.out.arr
          have hfree := HOk.out.free HFk.out
          have hrk := HOk.out.row
          have hff : ∀ b ∈ (if ktk xs[d].ctors k = [] then [] else rowOf (.slice kA (ktk xs[d].ctors k).length kcap) ++ Fk), w8.heap.size + 1 ≤ b ∧ b < wr.heap.size := fun b hb => by
            split at hb
            · cases hb
            · rcases List.mem_append.1 hb with h | h
              · exact hrk b h
              · exact ⟨HFkh.out b h, HOk.out.under b h⟩
          generalize (if ktk xs[d].ctors k = [] then [] else rowOf (.slice kA (ktk xs[d].ctors k).length kcap) ++ Fk) = FF at harr hfree hff
          have HFF := Lib.hid hff
          have HFREE := Lib.hid hfree
          have HDX : Hid (DtO wr xs[d] [.string xs[d].name, .slice kA (ktk xs[d].ctors k).length kcap] FF) := ⟨_, rfl, by rw [hka] at harr ⊢; exact harr, hns⟩
          have hbs : w.heap.size ≤ wr.heap.size := hB.size
          clear harr hfree hrk hff HOk HFk HFkh HO9 HFr9 HC9 hka
          go_wp2_with (at_builtin; refine Halt.mk ?_)
          refine Halt.of (wpList_push1 (P := Try.prog) rfl _ _ 30 rfl m0 _ 40 Try.underlying30 HM.out HM0.out HM1.out HM2.out rfl (by decide) DtO_len DtO_mono (by rfl) hOr.out xs[d] 97 [.string xs[d].name, .slice kA (ktk xs[d].ctors k).length kcap] FF _ (by rfl) rfl (by simp [Value.oneCell']) HDX.out (fun b hb => (HFF.out b hb).2) (fun g hg hG => by have h1 := HB8.out g (List.mem_append.2 (.inl hg)); have h2 := (HFF.out g hG).1; omega) (by unfold maxLen; omega) (by omega) hbs ?_)
          intro g cp w7 hown7 hgr7 hat7
          obtain ⟨r1, r2, r3, r4, r5, r6⟩ := push_round (n := (dtk xs d).length + 1) (cp := cp) hOr.out hFrr.out HFREE.out HB8.out HFF.out HR.out hCr.out hB (Nat.le_refl _) HFh.out hw18 hgr7 hat7
          have R1 := Lib.hid r1
          have R2 := Lib.hid r2
          have R4 := Lib.hid r4
          have R5 := Lib.hid r5
          have HO7 := Lib.hid hown7
          clear r1 r2 r3 r4 r5 hown7 hgr7 hat7
          go_wp2
          go_roundw
          case rel => exact ⟨d + 1, Fo ++ FF, hdl, by go_num, by rw [HF2.out]; exact HO7.out, R1, R2, R4, R5.out, r6⟩
          case measure => (simp [intOf] <;> omega)
    · have hfin : Own wr w.heap.size 97 2 DtO xs u3 Fo := by
        have h := HO.out
        rw [dtk_all xs (by omega)] at h
        exact h
      have HFin := Lib.hid hfin
      clear hfin HO
      go_wp2
      go_ret
      exact ⟨_, Fo, rfl, hB, HFin.out, HFr.out, fun b hb => by have := HFh.out b hb; omega⟩
end Go.Proofs.Ytilndhmegaccmaa

namespace Go.Proofs.Ytilndhmegaccmaa
open Go.RowKit

def LitN (w : World) (b : Nat) (ls : List Int) : Prop := b < w.heap.size ∧ Arr w (NatR w) ls (.slice (some ⟨b, 0, none⟩) ls.length ls.length) [b]
theorem LitN.new (w : World) (ls : List Int) (hl : ls.length ≤ 1000) : LitN (w.alloc (.cells (ls.map (Value.int .i64)).toArray 3)) w.heap.size ls := ⟨by simp, lit_nums w ls hl⟩
theorem LitN.chg {w w' : World} {b : Nat} {ls : List Int} {F : List Nat} (h : LitN w b ls) (hc : Chg F w w') (hb : b ∉ F) : LitN w' b ls :=
  ⟨Nat.lt_of_lt_of_le h.1 hc.size, h.2.mono (hc.kept (fun x hx => by rw [List.mem_singleton.1 hx]; exact h.1) (fun x hx => by rw [List.mem_singleton.1 hx]; exact hb)) fun _ _ _ _ _ h => h⟩
theorem LitN.alloc {w : World} {b : Nat} {ls : List Int} (h : LitN w b ls) (o : Obj) : LitN (w.alloc o) b ls := h.chg (F := []) (.of_below ((Below.refl _ _).alloc (Nat.le_refl _) _)) (by simp)
theorem LitN.new2 (w : World) (o : Obj) (ls : List Int) (hl : ls.length ≤ 1000) : LitN ((w.alloc o).alloc (.cells (ls.map (Value.int .i64)).toArray 3)) (w.heap.size + 1) ls := by
  have h := LitN.new (w.alloc o) ls hl
  rwa [World.size_alloc] at h
theorem Chg.alloc {F : List Nat} {w w' : World} (h : Chg F w w') (o : Obj) : Chg F w (w'.alloc o) := h.step ((Below.refl _ _).alloc (Nat.le_refl _) _)
theorem num_at {w : World} {b : Nat} {ls : List Int} (hb : LitN w b ls) (hl1 : 1 ≤ ls.length) (hl2 : ls.length ≤ 1000) (p g : Nat) (h : Rd w g p) (hp : p ≤ 1000000) (hg : b ≠ g) :
    Calls Try.prog 73 #[.pointer (some ⟨g, 0, none⟩), .slice (some ⟨b, 0, none⟩) ls.length ls.length] w fun e w' => ∃ x, e = .returned (.int .i64 x) ∧ Rd w' g (p + 1) ∧ Chg [g] w w' := by
  refine (num_any ls hl1 hl2 p g w h hp _ _ hb.2 (fun x hx => by rw [List.mem_singleton.1 hx]; exact hb.1) (fun e => hg (List.mem_singleton.1 e).symm)).mono ?_
  rintro e w' ⟨x, -, rfl, hR, hC⟩
  exact ⟨x, rfl, hR, hC⟩
theorem Chg.undrewN {F : List Nat} {w w' : World} (h : Chg F w.drew w') : Chg F w w' := ⟨h.os, h.tape, h.output, h.size, h.block⟩

set_option maxRecDepth 100000 in
set_option maxHeartbeats 6400000 in
theorem spec_l1Mutate (p g : Nat) (w : World) (h : Rd w g p) (hp : p ≤ 900000) (xs : List Dt) (v : Value) (F : List Nat) (hx : Arr w (DtR w) xs v F) (hf : Under w.heap.size F) (h0 : 0 < xs.length) (hl : xs.length ≤ 99) (m : Nat) (hm : m ≤ 90) (hs : SmallW m xs) :
    Calls Try.prog 56 #[.pointer (some ⟨g, 0, none⟩), v] w (Mutd g p m xs w) := by
  have hgl := h.lt
  have HR0 := Lib.hid h
  have HCALL := Lib.hid (spec_l1Copy xs w v F hx hf (by omega) (hs.mono (by omega)))
  have HSM := Lib.hid hs
  have HMM := Lib.hid hm
  clear h hx hf hs hm
  obtain ⟨j0, hj, hj0, hj1, hj2⟩ := info_parts info_tyE
  have HJ := Lib.hid hj
  have HJ0 := Lib.hid hj0
  have HJ1 := Lib.hid hj1
  have HJ2 := Lib.hid hj2
  clear hj hj0 hj1 hj2
  obtain ⟨m0, hm, hm0, hm1, hm2⟩ := info_parts info_DtE
  have HM := Lib.hid hm
  have HM0 := Lib.hid hm0
  have HM1 := Lib.hid hm1
  have HM2 := Lib.hid hm2
  clear hm hm0 hm1 hm2
  go_enter Try.func56, Try.ntmps56
  go_wp2_with fail
  refine HCALL.out.mono ?_
  rintro e w1 ⟨v1, F1, rfl, hb1, ho1, hfr1, hfs1⟩
  have hCpy : Cpy g p xs v1 F1 w w1 := ⟨HR0.out.below hb1, Chg.of_below hb1, ho1, hfr1, fun b hb => by have := hfs1 b hb; omega, hgl⟩
  obtain ⟨A1, cap1, rfl, hc1, hc2⟩ := ho1.form
  obtain ⟨FF, ha1, -, -⟩ := hCpy.arr
  obtain ⟨b, off, rfl⟩ := ha1.ptr h0
  have HC1 := Lib.hid hCpy
  clear hCpy ho1 ha1 hb1 hfr1 hfs1 HCALL HR0
  go_wp2_with fail
  refine (pick_any xs.length p g w1 HC1.out.rd (by omega) h0 (by omega)).mono ?_
  rintro e w2 ⟨d, rfl, hd, hR2, hC2⟩
  have HC2 := Lib.hid (HC1.out.step hR2 hC2)
  clear hR2 hC2 HC1
  have g1 : (0 : Int) ≤ (d : Int) := by omega
  have g2 : (d : Int) < (xs.length : Int) := by omega
  obtain ⟨kA, kcap, F2, n0, k0, z0, hb, hbl, hk1, hk2, hdx, hF2, hname, hctors⟩ := HC2.out.data (p := p) h0 HSM.out hd
  clear n0 z0 hb hbl hdx hF2 hname hctors
  cases q0 : ((xs[d].ctors.length : Int) == 0) with
  | true =>
    have HFin := Lib.hid (HC2.out.done (p := p) h0 HSM.out (by omega))
    clear HC2
    go_wp2
    go_ret
    exact HFin.out
  | false =>
    have hk0 : 0 < xs[d].ctors.length := by rw [beq_eq_false_iff_ne] at q0; omega
    have e0 : (0 : Int) < (xs[d].ctors.length : Int) := by omega
    go_wp2_with fail
    refine (pick_any 30 (p + 1) g w2 HC2.out.rd (by omega) (by omega) (by omega)).mono ?_
    rintro e w3 ⟨r, rfl, hr, hR3, hC3⟩
    have HC3 := Lib.hid (HC2.out.step hR3 hC3)
    clear hR3 hC3 HC2 k0 hk1 hk2
    cases c0q : ((r : Int) == 0) with
    | true =>
      go_wp2_with fail
      refine (of_lit [⟨#[73]⟩, ⟨#[]⟩, ⟨#[97]⟩, ⟨#[76, 76]⟩, ⟨#[90]⟩] (by decide) (by decide) (p + 1 + 1) g w3 HC3.out.rd (by omega)).mono ?_
      rintro e w4 ⟨s, hs, rfl, hR4, hC4⟩
      have hsz : s.size ≤ 1000 := by
        have hall : ∀ x ∈ ([⟨#[73]⟩, ⟨#[]⟩, ⟨#[97]⟩, ⟨#[76, 76]⟩, ⟨#[90]⟩] : List ByteArray), x.size ≤ 1000 := by decide
        exact hall s hs
      have HC4 := Lib.hid (HC3.out.step hR4 hC4)
      clear hR4 hC4 HC3 hs
      obtain ⟨kA, kcap, F2, n0, k0, z0, hb, hbl, hk1, hk2, hdx, hF2, hname, hctors⟩ := HC4.out.data (p := p) h0 HSM.out hd
      have f0 := z0 (off + d * 2)
      have HFin := Lib.hid (hname s hsz (by omega))
      clear k0 z0 hb hk1 hk2 hdx hF2 hname hctors HC4
      go_wp2
      go_ret
      exact HFin.out
    | false =>
      cases c1q : ((r : Int) == 1) with
      | true =>
        obtain ⟨kA, kcap, F2, n0, k0, z0, hb, hbl, hk1, hk2, hdx, hF2, hname, hctors⟩ := HC3.out.data (p := p) h0 HSM.out hd
        have f0 : (w3.alloc (.cells #[] 138)).frozen? ⟨b, off + d * 2 + 1, none⟩ = false := (World.frozen?_of_block (a := ⟨b, off + d * 2 + 1, none⟩) (Below.heap_alloc _ _ _ hbl)).trans (z0 _)
        have y0 : (w3.alloc (.cells #[] 138)).cell? ⟨b, off + d * 2 + 1, none⟩ = some (.slice kA xs[d].ctors.length kcap) := (World.cell?_alloc_lt _ _ _ hbl).trans k0
        have HFin := Lib.hid (hctors 138 (by omega))
        clear n0 k0 z0 hb hk1 hk2 hdx hF2 hname hctors HC3
        go_wp2
        go_ret
        exact HFin.out
      | false =>
        cases c2q : ((r : Int) == 2) with
        | true =>
          have hCd := HC3.out.drew
          clear HC3
          obtain ⟨b2, off2, cap2, aA, acap, kc, hbb, hbg, hb2g, hbl, hb2l, hz2, c0, c1, c2, hown, hrow, hal, H2, H4, H3⟩ := hCd.ctor (p := p) h0 HSM.out hd hk0
          have HH := Lib.hid H2
          have hR3 := Lib.hid hCd.rd
          have f3 := hz2 (off2)
          clear c1 c2 hown hrow hal H2 H4 H3 hCd hz2
          go_wp2_with fail
          refine wp_region_B (S := fun w' => w'.cell? ⟨b, off + d * 2 + 1, none⟩ = some (.slice (some ⟨b2, off2, none⟩) xs[d].ctors.length cap2)) (T := fun _ => True) (d := 10) (by kernel_rfl) ?_
          generalize w3.drew = wd at *
          have hS1 : wd.cell? ⟨b, off + d * 2 + 1, none⟩ = some (.slice (some ⟨b2, off2, none⟩) xs[d].ctors.length cap2) := kc
          have hT1 : True := trivial
          refine wpAnyB_take (i := 0) (v := ?_) rfl (by decide) (by kernel_rfl) (by kernel_rfl) (by kernel_rfl) (fun _ _ _ h => h) (Or.inl ⟨by rfl, ?hy0⟩) hS1 (fun _ => hT1) ?_
          case hy0 => (intro W hSw; (try dsimp only at hSw); go_simp; try with_reducible rfl)
          (try simp only [Act.put, List.setIfInBounds_toArray, List.set_cons_zero, List.set_cons_succ])
          refine wpAnyB_take (i := 1) (v := ?_) rfl (by decide) (by kernel_rfl) (by kernel_rfl) (by kernel_rfl) (fun _ _ _ h => h) (Or.inl ⟨by rfl, ?hy1⟩) hS1 (fun _ => hT1) ?_
          case hy1 => (intro W hSw; (try dsimp only at hSw); go_simp; try with_reducible rfl)
          (try simp only [Act.put, List.setIfInBounds_toArray, List.set_cons_zero, List.set_cons_succ])
          refine wpAnyB_take (i := 2) (v := ?_) rfl (by decide) (by kernel_rfl) (by kernel_rfl) (by kernel_rfl) (fun _ _ _ h => h) (Or.inl ⟨by rfl, ?hy2⟩) hS1 (fun _ => hT1) ?_
          case hy2 => (intro W hSw; (try dsimp only at hSw); go_simp; try with_reducible rfl)
          (try simp only [Act.put, List.setIfInBounds_toArray, List.set_cons_zero, List.set_cons_succ])
          refine wpAnyB_take (i := 3) (v := ?_) rfl (by decide) (by kernel_rfl) (by kernel_rfl) (by kernel_rfl) (fun _ _ _ h => h) (Or.inl ⟨by rfl, ?hy3⟩) hS1 (fun _ => hT1) ?_
          case hy3 => (intro W hSw; (try dsimp only at hSw); go_simp; try with_reducible rfl)
          (try simp only [Act.put, List.setIfInBounds_toArray, List.set_cons_zero, List.set_cons_succ])
          refine wpAnyB_take (i := 4) (v := ?_) rfl (by decide) (by kernel_rfl) (by kernel_rfl) (by kernel_rfl) (fun _ _ _ h => h) (Or.inl ⟨by rfl, ?hy4⟩) hS1 (fun _ => hT1) ?_
          case hy4 => (intro W hSw; (try dsimp only at hSw); go_simp; try with_reducible rfl)
          (try simp only [Act.put, List.setIfInBounds_toArray, List.set_cons_zero, List.set_cons_succ])
          refine wpAnyB_take (i := 5) (v := ?_) rfl (by decide) (by kernel_rfl) (by kernel_rfl) (by kernel_rfl) (fun _ _ _ h => h) (Or.inl ⟨by rfl, ?hy5⟩) hS1 (fun _ => hT1) ?_
          case hy5 => (intro W hSw; (try dsimp only at hSw); go_simp; try with_reducible rfl)
          (try simp only [Act.put, List.setIfInBounds_toArray, List.set_cons_zero, List.set_cons_succ])
          refine wpAnyB_ready (rs := [6]) (by kernel_rfl) (by simp) ?_
          refine AllReadyB.cons rfl (fun K hK => ?_) AllReadyB.nil
          go_simp
          refine hK.out _ _ ((World.cell?_alloc_lt _ _ _ hbl).trans kc) (fun _ => trivial) ?_
          clear hK K
          (try simp only [Act.put, List.setIfInBounds_toArray, List.set_cons_zero, List.set_cons_succ])
          refine wpAnyB_ready (rs := [7]) (by kernel_rfl) (by simp) ?_
          refine AllReadyB.cons rfl (fun K hK => ?_) AllReadyB.nil
          go_simp
          go_at_call 101
          refine (of_lit [⟨#[]⟩, ⟨#[110, 105, 108]⟩, ⟨#[84, 111, 111, 108, 111, 110, 103]⟩, ⟨#[88]⟩] (by decide) (by decide) (p + 1 + 1) g wd hR3.out (by omega)).mono ?_
          rintro e w4 ⟨s, hs, rfl, hR4, hC4⟩
          have hC5 := hC4
          have hsz : s.size ≤ 1000 := by
            have hall : ∀ x ∈ ([⟨#[]⟩, ⟨#[110, 105, 108]⟩, ⟨#[84, 111, 111, 108, 111, 110, 103]⟩, ⟨#[88]⟩] : List ByteArray), x.size ≤ 1000 := by decide
            exact hall s hs
          have hS4 : w4.cell? ⟨b, off + d * 2 + 1, none⟩ = some (.slice (some ⟨b2, off2, none⟩) xs[d].ctors.length cap2) := (hC5.cell hbl hbg).trans kc
          have x4 : w4.cell? ⟨b2, off2, none⟩ = some (.string xs[d].ctors[0].name) := (hC5.cell hb2l hb2g).trans c0
          have f4 : w4.frozen? ⟨b2, off2, none⟩ = false := (World.frozen?_of_block (a := ⟨b2, off2, none⟩) (hC5.block _ hb2l hb2g)).trans f3
          have HFin := Lib.hid (HH.out w4 _ s hR4 hC5 (by omega) hsz)
          dsimp only
          refine hK.out _ _ hS4 (fun _ => trivial) ?_
          clear hK K
          (try simp only [Act.put, List.setIfInBounds_toArray, List.set_cons_zero, List.set_cons_succ])
          refine wpAnyB_take (i := 8) (v := ?_) rfl (by decide) (by kernel_rfl) (by kernel_rfl) (by kernel_rfl) (fun _ _ _ h => h) (Or.inl ⟨by rfl, ?hy8⟩) hS4 (fun _ => hT1) ?_
          case hy8 => (intro W hSw; (try dsimp only at hSw); go_simp; try with_reducible rfl)
          (try simp only [Act.put, List.setIfInBounds_toArray, List.set_cons_zero, List.set_cons_succ])
          refine wpAnyB_take (i := 9) (v := ?_) rfl (by decide) (by kernel_rfl) (by kernel_rfl) (by kernel_rfl) (fun _ _ _ h => h) (Or.inl ⟨by rfl, ?hy9⟩) hS4 (fun _ => hT1) ?_
          case hy9 => (intro W hSw; (try dsimp only at hSw); go_simp; try with_reducible rfl)
          (try simp only [Act.put, List.setIfInBounds_toArray, List.set_cons_zero, List.set_cons_succ])
          refine wpAnyB_ready (rs := [10]) (by kernel_rfl) (by simp) ?_
          refine AllReadyB.cons rfl (fun K hK => ?_) AllReadyB.nil
          go_simp
          refine hK.out _ _ ((World.cell?_setCell_far _ _ _ _ (by show b2 ≠ b; exact fun e => hbb e.symm)).trans hS4) (fun _ => trivial) ?_
          clear hK K
          (try simp only [Act.put, List.setIfInBounds_toArray, List.set_cons_zero, List.set_cons_succ])
          refine wpAnyB_end (by kernel_rfl) ?_
          clear hS1 hT1 hS4 x4 f4 hC5 hC4 hR4 HH hR3 f3 kc c0
          go_wp2
          go_ret
          exact HFin.out
        | false =>
          cases c3q : ((r : Int) == 3) with
          | true =>
            have hCd := HC3.out.drew
            clear HC3
            obtain ⟨b2, off2, cap2, aA, acap, kc, hbb, hbg, hb2g, hbl, hb2l, hz2, c0, c1, c2, hown, hrow, hal, H2, H4, H3⟩ := hCd.ctor (p := p) h0 HSM.out hd hk0
            have HH := Lib.hid H3
            have HRD := Lib.hid hCd.rd
            have f3 := hz2 (off2 + 1)
            have HOWN := Lib.hid hown
            have HROW := Lib.hid hrow
            have hm90 := HMM.out
            have hmx : xs[d].ctors[0].args.length + 1 ≤ maxLen := by unfold maxLen; omega
            have hby : (xs[d].ctors[0].args.length + 1) * 16 ≤ 140737488355328 := by omega
            clear hm90
            have hgl3 : g < w3.drew.heap.size := hCd.rd.lt
            have hgs : w3.drew.heap.size ≠ g := by omega
            have hgs1 : w3.drew.heap.size + 1 ≠ g := by omega
            clear c0 c2 hown hrow H2 H4 H3 hCd hz2
            go_wp2_with fail
            refine wp_region_B (S := fun w' => w'.cell? ⟨b, off + d * 2 + 1, none⟩ = some (.slice (some ⟨b2, off2, none⟩) xs[d].ctors.length cap2)) (T := fun w' => w'.cell? ⟨b2, off2 + 1, none⟩ = some (.slice aA xs[d].ctors[0].args.length acap)) (d := 21) (by kernel_rfl) ?_
            generalize w3.drew = wd at *
            have hS1 : wd.cell? ⟨b, off + d * 2 + 1, none⟩ = some (.slice (some ⟨b2, off2, none⟩) xs[d].ctors.length cap2) := kc
            have hT1 : wd.cell? ⟨b2, off2 + 1, none⟩ = some (.slice aA xs[d].ctors[0].args.length acap) := c1
            refine wpAnyB_take (i := 0) (v := ?_) rfl (by decide) (by kernel_rfl) (by kernel_rfl) (by kernel_rfl) (fun _ _ _ h => h) (Or.inl ⟨by rfl, ?hy0⟩) hS1 (fun _ => hT1) ?_
            case hy0 => (intro W hSw; (try dsimp only at hSw); go_simp; try with_reducible rfl)
            (try simp only [Act.put, List.setIfInBounds_toArray, List.set_cons_zero, List.set_cons_succ])
            refine wpAnyB_take (i := 1) (v := ?_) rfl (by decide) (by kernel_rfl) (by kernel_rfl) (by kernel_rfl) (fun _ _ _ h => h) (Or.inl ⟨by rfl, ?hy1⟩) hS1 (fun _ => hT1) ?_
            case hy1 => (intro W hSw; (try dsimp only at hSw); go_simp; try with_reducible rfl)
            (try simp only [Act.put, List.setIfInBounds_toArray, List.set_cons_zero, List.set_cons_succ])
            refine wpAnyB_take (i := 2) (v := ?_) rfl (by decide) (by kernel_rfl) (by kernel_rfl) (by kernel_rfl) (fun _ _ _ h => h) (Or.inl ⟨by rfl, ?hy2⟩) hS1 (fun _ => hT1) ?_
            case hy2 => (intro W hSw; (try dsimp only at hSw); go_simp; try with_reducible rfl)
            (try simp only [Act.put, List.setIfInBounds_toArray, List.set_cons_zero, List.set_cons_succ])
            refine wpAnyB_take (i := 3) (v := ?_) rfl (by decide) (by kernel_rfl) (by kernel_rfl) (by kernel_rfl) (fun _ _ _ h => h) (Or.inl ⟨by rfl, ?hy3⟩) hS1 (fun _ => hT1) ?_
            case hy3 => (intro W hSw; (try dsimp only at hSw); go_simp; try with_reducible rfl)
            (try simp only [Act.put, List.setIfInBounds_toArray, List.set_cons_zero, List.set_cons_succ])
            refine wpAnyB_take (i := 4) (v := ?_) rfl (by decide) (by kernel_rfl) (by kernel_rfl) (by kernel_rfl) (fun _ _ _ h => h) (Or.inl ⟨by rfl, ?hy4⟩) hS1 (fun _ => hT1) ?_
            case hy4 => (intro W hSw; (try dsimp only at hSw); go_simp; try with_reducible rfl)
            (try simp only [Act.put, List.setIfInBounds_toArray, List.set_cons_zero, List.set_cons_succ])
            refine wpAnyB_take (i := 5) (v := ?_) rfl (by decide) (by kernel_rfl) (by kernel_rfl) (by kernel_rfl) (fun _ _ _ h => h) (Or.inl ⟨by rfl, ?hy5⟩) hS1 (fun _ => hT1) ?_
            case hy5 => (intro W hSw; (try dsimp only at hSw); go_simp; try with_reducible rfl)
            (try simp only [Act.put, List.setIfInBounds_toArray, List.set_cons_zero, List.set_cons_succ])
            refine wpAnyB_take (i := 6) (v := ?_) rfl (by decide) (by kernel_rfl) (by kernel_rfl) (by kernel_rfl) (fun _ _ _ h => h) (Or.inl ⟨by rfl, ?hy6⟩) hS1 (fun _ => hT1) ?_
            case hy6 => (intro W hSw; (try dsimp only at hSw); go_simp; try with_reducible rfl)
            (try simp only [Act.put, List.setIfInBounds_toArray, List.set_cons_zero, List.set_cons_succ])
            refine wpAnyB_take (i := 7) (v := ?_) rfl (by decide) (by kernel_rfl) (by kernel_rfl) (by kernel_rfl) (fun _ _ _ h => h) (Or.inl ⟨by rfl, ?hy7⟩) hS1 (fun _ => hT1) ?_
            case hy7 => (intro W hSw; (try dsimp only at hSw); go_simp; try with_reducible rfl)
            (try simp only [Act.put, List.setIfInBounds_toArray, List.set_cons_zero, List.set_cons_succ])
            refine wpAnyB_take (i := 8) (v := ?_) rfl (by decide) (by kernel_rfl) (by kernel_rfl) (by kernel_rfl) (fun _ _ _ h => h) (Or.inl ⟨by rfl, ?hy8⟩) hS1 (fun _ => hT1) ?_
            case hy8 => (intro W hSw; (try dsimp only at hSw); go_simp; try with_reducible rfl)
            (try simp only [Act.put, List.setIfInBounds_toArray, List.set_cons_zero, List.set_cons_succ])
            refine wpAnyB_take (i := 9) (v := ?_) rfl (by decide) (by kernel_rfl) (by kernel_rfl) (by kernel_rfl) (fun _ _ _ h => h) (Or.inl ⟨by rfl, ?hy9⟩) hS1 (fun _ => hT1) ?_
            case hy9 => (intro W hSw; (try dsimp only at hSw); go_simp; try with_reducible rfl)
            (try simp only [Act.put, List.setIfInBounds_toArray, List.set_cons_zero, List.set_cons_succ])
            refine wpAnyB_take (i := 10) (v := ?_) rfl (by decide) (by kernel_rfl) (by kernel_rfl) (by kernel_rfl) (fun _ _ _ h => h) (Or.inl ⟨by rfl, ?hy10⟩) hS1 (fun _ => hT1) ?_
            case hy10 => (intro W hSw; (try dsimp only at hSw); go_simp; try with_reducible rfl)
            (try simp only [Act.put, List.setIfInBounds_toArray, List.set_cons_zero, List.set_cons_succ])
            refine wpAnyB_take (i := 11) (v := ?_) rfl (by decide) (by kernel_rfl) (by kernel_rfl) (by kernel_rfl) (fun _ _ _ h => h) (Or.inl ⟨by rfl, ?hy11⟩) hS1 (fun _ => hT1) ?_
            case hy11 => (intro W hSw; (try dsimp only at hSw); go_simp; try with_reducible rfl)
            (try simp only [Act.put, List.setIfInBounds_toArray, List.set_cons_zero, List.set_cons_succ])
            refine wpAnyB_takeB (i := 12) (v := ?_) rfl (by decide) rfl (by kernel_rfl) (by kernel_rfl) (by kernel_rfl) (by kernel_rfl) (fun _ _ _ h => h) (Or.inl ⟨by rfl, ?hy12⟩) (by rfl) hS1 hT1 ?_
            case hy12 => (intro W hSw; (try dsimp only at hSw); go_simp; try with_reducible rfl)
            (try simp only [Act.put, List.setIfInBounds_toArray, List.set_cons_zero, List.set_cons_succ])
            refine wpAnyB_take (i := 13) (v := ?_) rfl (by decide) (by kernel_rfl) (by kernel_rfl) (by kernel_rfl) (fun _ _ _ h => h) (Or.inl ⟨by rfl, ?hy13⟩) hS1 (fun _ => hT1) ?_
            case hy13 => (intro W hSw; (try dsimp only at hSw); go_simp; try with_reducible rfl)
            (try simp only [Act.put, List.setIfInBounds_toArray, List.set_cons_zero, List.set_cons_succ])
            refine wpAnyB_take (i := 16) (v := ?_) rfl (by decide) (by kernel_rfl) (by kernel_rfl) (by kernel_rfl) (fun _ _ _ h => h) (Or.inl ⟨by rfl, ?hy16⟩) hS1 (fun _ => hT1) ?_
            case hy16 => (intro W hSw; (try dsimp only at hSw); go_simp; try with_reducible rfl)
            (try simp only [Act.put, List.setIfInBounds_toArray, List.set_cons_zero, List.set_cons_succ])
            refine wpAnyB_ready (rs := [14, 17]) (by kernel_rfl) (by simp) ?_
            refine AllReadyB.cons rfl (fun K hK => ?_) (AllReadyB.cons rfl (fun K hK => ?_) AllReadyB.nil)
            · go_simp
              refine hK.out _ _ (((Chg.refl [g] wd).alloc _).cell hbl hbg |>.trans kc) (fun _ => ((Chg.refl [g] wd).alloc _).cell hb2l hb2g |>.trans c1) ?_
              clear hK K
              (try simp only [Act.put, List.setIfInBounds_toArray, List.set_cons_zero, List.set_cons_succ])
              refine wpAnyB_ready (rs := [15, 17]) (by kernel_rfl) (by simp) ?_
              refine AllReadyB.cons rfl (fun K hK => ?_) (AllReadyB.cons rfl (fun K hK => ?_) AllReadyB.nil)
              · go_simp
                go_at_call 73
                refine (num_at (LitN.new wd [9, -2, 0, -1] (by decide)) (by decide) (by decide) (p + 1 + 1) g (HRD.out.below ((Below.refl _ _).alloc (Nat.le_refl _) _)) (by omega) hgs).mono ?_
                rintro e w5 ⟨x, rfl, hRw5, hCw5⟩
                have hC5 : Chg [g] wd w5 := ((Chg.refl [g] wd).alloc _).trans hCw5
                dsimp only
                refine hK.out _ _ (((hC5).cell hbl hbg).trans kc) (fun _ => ((hC5).cell hb2l hb2g).trans c1) ?_
                clear hK K
                (try simp only [Act.put, List.setIfInBounds_toArray, List.set_cons_zero, List.set_cons_succ])
                refine wpAnyB_ready (rs := [17]) (by kernel_rfl) (by simp) ?_
                refine AllReadyB.cons rfl (fun K hK => ?_) AllReadyB.nil
                go_simp
                refine hK.out _ _ (((hC5).alloc _).cell hbl hbg |>.trans kc) (fun _ => ((hC5).alloc _).cell hb2l hb2g |>.trans c1) ?_
                clear hK K
                (try simp only [Act.put, List.setIfInBounds_toArray, List.set_cons_zero, List.set_cons_succ])
                refine wpAnyB_ready (rs := [18]) (by kernel_rfl) (by simp) ?_
                refine AllReadyB.cons rfl (fun K hK => ?_) AllReadyB.nil
                go_simp
                go_at_call 73
                refine (num_at (LitN.new w5 [0, 4, -1, -2] (by decide)) (by decide) (by decide) (p + 1 + 1 + 1) g (hRw5.below ((Below.refl _ _).alloc (Nat.le_refl _) _)) (by omega) (by have := hC5.size; omega)).mono ?_
                rintro e w6 ⟨y, rfl, hRw6, hCw6⟩
                have hC6 : Chg [g] wd w6 := (hC5.alloc _).trans hCw6
                have hSE : w6.cell? ⟨b, off + d * 2 + 1, none⟩ = some (.slice (some ⟨b2, off2, none⟩) xs[d].ctors.length cap2) := ((hC6).cell hbl hbg).trans kc
                have hTE : w6.cell? ⟨b2, off2 + 1, none⟩ = some (.slice aA xs[d].ctors[0].args.length acap) := ((hC6).cell hb2l hb2g).trans c1
                have HOE : Hid (Own w6 0 32 2 TyR xs[d].ctors[0].args (.slice aA xs[d].ctors[0].args.length acap) []) := HOWN.out.mono0 (w' := w6) (fun x cs G (h : TyR wd x cs G) => (h : TyR w6 x cs G)) ((hC6).kept (fun x hx => (HROW.out x hx).2.2.2) (fun x hx => (HROW.out x hx).1))
                have hzE : wd.heap.size ≤ w6.heap.size := (hC6).size
                have hfE : w6.frozen? ⟨b2, off2 + 1, none⟩ = false := (World.frozen?_of_block (a := ⟨b2, off2 + 1, none⟩) ((hC6).block _ hb2l hb2g)).trans f3
                have hFinE := HH.out w6 (p + 1 + 1 + 1 + 1) ⟨x, y⟩
                have HFE := Lib.hid (fun g' c' w3' o => hFinE g' c' w3' o hRw6 (hC6) (by omega))
                clear hFinE
                dsimp only
                refine hK.out _ _ hSE (fun _ => hTE) ?_
                clear hK K
                (try simp only [Act.put, List.setIfInBounds_toArray, List.set_cons_zero, List.set_cons_succ])
                refine wpAnyB_take (i := 19) (v := ?_) rfl (by decide) (by kernel_rfl) (by kernel_rfl) (by kernel_rfl) (fun _ _ _ h => h) (Or.inl ⟨by rfl, ?hy19⟩) hSE (fun _ => hTE) ?_
                case hy19 => (intro W hSw; (try dsimp only at hSw); go_simp; try with_reducible rfl)
                (try simp only [Act.put, List.setIfInBounds_toArray, List.set_cons_zero, List.set_cons_succ])
                refine wpAnyB_ready (rs := [20]) (by kernel_rfl) (by simp) ?_
                refine AllReadyB.cons rfl (fun K hK => ?_) AllReadyB.nil
                go_simp
                refine hK.out _ _ ((World.cell?_alloc_lt _ _ _ (Nat.lt_of_lt_of_le hbl hzE)).trans hSE) (fun _ => (World.cell?_alloc_lt _ _ _ (Nat.lt_of_lt_of_le hb2l hzE)).trans hTE) ?_
                clear hK K
                (try simp only [Act.put, List.setIfInBounds_toArray, List.set_cons_zero, List.set_cons_succ])
                refine wpAnyB_ready (rs := [21]) (by kernel_rfl) (by simp) ?_
                refine AllReadyB.cons rfl (fun K hK => ?_) AllReadyB.nil
                refine step_push1 (P := Try.prog) rfl _ _ 136 rfl j0 _ 16 Try.underlying136 HJ.out HJ0.out HJ1.out HJ2.out rfl (by decide) TyR_len' TyR_mono' (by rfl) HOE.out ⟨x, y⟩ 32 [.int .i64 x, .int .i64 y] [] _ (by rfl) rfl (by simp [Value.oneCell']) ⟨rfl, rfl⟩ (Under.nil _) (fun _ _ h => by cases h) hmx hby (Nat.zero_le _) ?_
                intro g' cp w7 hown7 hgr7 hat7
                have nb : some b ≠ (Value.slice aA xs[d].ctors[0].args.length acap).ownBlock := fun e => (HROW.out b (mem_rowOf.2 e.symm)).2.1 rfl
                have nb2 : some b2 ≠ (Value.slice aA xs[d].ctors[0].args.length acap).ownBlock := fun e => (HROW.out b2 (mem_rowOf.2 e.symm)).2.2.1 rfl
                have l7 : w6.heap.size ≤ (w6.alloc (.cells #[.int .i64 x, .int .i64 y] 32)).heap.size := by rw [World.size_alloc]; exact Nat.le_succ _
                have l8 : b < w6.heap.size := Nat.lt_of_lt_of_le hbl hzE
                have l9 : b2 < w6.heap.size := Nat.lt_of_lt_of_le hb2l hzE
                have s7 : w7.cell? ⟨b, off + d * 2 + 1, none⟩ = some (.slice (some ⟨b2, off2, none⟩) xs[d].ctors.length cap2) := (World.grownBy.cell_far hgr7 ⟨b, off + d * 2 + 1, none⟩ (Nat.lt_of_lt_of_le l8 l7) nb).trans ((World.cell?_alloc_lt _ _ _ l8).trans hSE)
                have t7 : w7.cell? ⟨b2, off2 + 1, none⟩ = some (.slice aA xs[d].ctors[0].args.length acap) := (World.grownBy.cell_far hgr7 ⟨b2, off2 + 1, none⟩ (Nat.lt_of_lt_of_le l9 l7) nb2).trans ((World.cell?_alloc_lt _ _ _ l9).trans hTE)
                have f7 : w7.frozen? ⟨b2, off2 + 1, none⟩ = false := (World.grownBy.frozen_far hgr7 ⟨b2, off2 + 1, none⟩ (Nat.lt_of_lt_of_le l9 l7) nb2).trans (Eq.trans (World.frozen?_of_block (Below.heap_alloc _ _ _ l9)) hfE)
                have HFin := Lib.hid (HFE.out g' cp w7 _ hown7 hgr7 hat7)
                refine hK.out _ _ s7 (fun _ => t7) ?_
                clear hK K
                (try simp only [Act.put, List.setIfInBounds_toArray, List.set_cons_zero, List.set_cons_succ])
                refine wpAnyB_take (i := 22) (v := ?_) rfl (by decide) (by kernel_rfl) (by kernel_rfl) (by kernel_rfl) (fun _ _ _ h => h) (Or.inl ⟨by rfl, ?hy22⟩) s7 (fun _ => t7) ?_
                case hy22 => (intro W hSw; (try dsimp only at hSw); go_simp; try with_reducible rfl)
                (try simp only [Act.put, List.setIfInBounds_toArray, List.set_cons_zero, List.set_cons_succ])
                refine wpAnyB_take (i := 23) (v := ?_) rfl (by decide) (by kernel_rfl) (by kernel_rfl) (by kernel_rfl) (fun _ _ _ h => h) (Or.inl ⟨by rfl, ?hy23⟩) s7 (fun _ => t7) ?_
                case hy23 => (intro W hSw; (try dsimp only at hSw); go_simp; try with_reducible rfl)
                (try simp only [Act.put, List.setIfInBounds_toArray, List.set_cons_zero, List.set_cons_succ])
                refine wpAnyB_ready (rs := [24]) (by kernel_rfl) (by simp) ?_
                refine AllReadyB.cons rfl (fun K hK => ?_) AllReadyB.nil
                go_simp
                refine hK.out _ _ ((World.cell?_setCell_far _ _ _ _ (by show b2 ≠ b; exact fun e => hbb e.symm)).trans s7) (fun h => by cases h) ?_
                clear hK K
                (try simp only [Act.put, List.setIfInBounds_toArray, List.set_cons_zero, List.set_cons_succ])
                refine wpAnyB_end (by kernel_rfl) ?_
                clear hS1 hT1 hSE hTE HOE hzE hfE HFE nb nb2 l7 l8 l9 s7 t7 f7 hown7 hgr7 hat7 HH HOWN HROW f3 kc c1 hmx hby
                go_wp2
                go_ret
                exact HFin.out
              · go_simp
                refine hK.out _ _ ((((Chg.refl [g] wd).alloc _).alloc _).cell hbl hbg |>.trans kc) (fun _ => (((Chg.refl [g] wd).alloc _).alloc _).cell hb2l hb2g |>.trans c1) ?_
                clear hK K
                (try simp only [Act.put, List.setIfInBounds_toArray, List.set_cons_zero, List.set_cons_succ])
                refine wpAnyB_ready (rs := [15]) (by kernel_rfl) (by simp) ?_
                refine AllReadyB.cons rfl (fun K hK => ?_) AllReadyB.nil
                go_simp
                go_at_call 73
                refine (num_at ((LitN.new wd [9, -2, 0, -1] (by decide)).alloc _) (by decide) (by decide) (p + 1 + 1) g ((HRD.out.below ((Below.refl _ _).alloc (Nat.le_refl _) _)).below ((Below.refl _ _).alloc (Nat.le_refl _) _)) (by omega) hgs).mono ?_
                rintro e w5 ⟨x, rfl, hRw5, hCw5⟩
                have hC5 : Chg [g] wd w5 := (((Chg.refl [g] wd).alloc _).alloc _).trans hCw5
                have hLB : LitN w5 (wd.heap.size + 1) [0, 4, -1, -2] := (LitN.new2 wd _ [0, 4, -1, -2] (by decide)).chg hCw5 (by rw [List.mem_singleton]; exact hgs1)
                dsimp only
                refine hK.out _ _ (((hC5).cell hbl hbg).trans kc) (fun _ => ((hC5).cell hb2l hb2g).trans c1) ?_
                clear hK K
                (try simp only [Act.put, List.setIfInBounds_toArray, List.set_cons_zero, List.set_cons_succ])
                refine wpAnyB_ready (rs := [18]) (by kernel_rfl) (by simp) ?_
                refine AllReadyB.cons rfl (fun K hK => ?_) AllReadyB.nil
                go_simp
                go_at_call 73
                refine (num_at hLB (by decide) (by decide) (p + 1 + 1 + 1) g hRw5 (by omega) hgs1).mono ?_
                rintro e w6 ⟨y, rfl, hRw6, hCw6⟩
                have hC6 : Chg [g] wd w6 := hC5.trans hCw6
                have hSE : w6.cell? ⟨b, off + d * 2 + 1, none⟩ = some (.slice (some ⟨b2, off2, none⟩) xs[d].ctors.length cap2) := ((hC6).cell hbl hbg).trans kc
                have hTE : w6.cell? ⟨b2, off2 + 1, none⟩ = some (.slice aA xs[d].ctors[0].args.length acap) := ((hC6).cell hb2l hb2g).trans c1
                have HOE : Hid (Own w6 0 32 2 TyR xs[d].ctors[0].args (.slice aA xs[d].ctors[0].args.length acap) []) := HOWN.out.mono0 (w' := w6) (fun x cs G (h : TyR wd x cs G) => (h : TyR w6 x cs G)) ((hC6).kept (fun x hx => (HROW.out x hx).2.2.2) (fun x hx => (HROW.out x hx).1))
                have hzE : wd.heap.size ≤ w6.heap.size := (hC6).size
                have hfE : w6.frozen? ⟨b2, off2 + 1, none⟩ = false := (World.frozen?_of_block (a := ⟨b2, off2 + 1, none⟩) ((hC6).block _ hb2l hb2g)).trans f3
                have hFinE := HH.out w6 (p + 1 + 1 + 1 + 1) ⟨x, y⟩
                have HFE := Lib.hid (fun g' c' w3' o => hFinE g' c' w3' o hRw6 (hC6) (by omega))
                clear hFinE
                dsimp only
                refine hK.out _ _ hSE (fun _ => hTE) ?_
                clear hK K
                (try simp only [Act.put, List.setIfInBounds_toArray, List.set_cons_zero, List.set_cons_succ])
                refine wpAnyB_take (i := 19) (v := ?_) rfl (by decide) (by kernel_rfl) (by kernel_rfl) (by kernel_rfl) (fun _ _ _ h => h) (Or.inl ⟨by rfl, ?hy19⟩) hSE (fun _ => hTE) ?_
                case hy19 => (intro W hSw; (try dsimp only at hSw); go_simp; try with_reducible rfl)
                (try simp only [Act.put, List.setIfInBounds_toArray, List.set_cons_zero, List.set_cons_succ])
                refine wpAnyB_ready (rs := [20]) (by kernel_rfl) (by simp) ?_
                refine AllReadyB.cons rfl (fun K hK => ?_) AllReadyB.nil
                go_simp
                refine hK.out _ _ ((World.cell?_alloc_lt _ _ _ (Nat.lt_of_lt_of_le hbl hzE)).trans hSE) (fun _ => (World.cell?_alloc_lt _ _ _ (Nat.lt_of_lt_of_le hb2l hzE)).trans hTE) ?_
                clear hK K
                (try simp only [Act.put, List.setIfInBounds_toArray, List.set_cons_zero, List.set_cons_succ])
                refine wpAnyB_ready (rs := [21]) (by kernel_rfl) (by simp) ?_
                refine AllReadyB.cons rfl (fun K hK => ?_) AllReadyB.nil
                refine step_push1 (P := Try.prog) rfl _ _ 136 rfl j0 _ 16 Try.underlying136 HJ.out HJ0.out HJ1.out HJ2.out rfl (by decide) TyR_len' TyR_mono' (by rfl) HOE.out ⟨x, y⟩ 32 [.int .i64 x, .int .i64 y] [] _ (by rfl) rfl (by simp [Value.oneCell']) ⟨rfl, rfl⟩ (Under.nil _) (fun _ _ h => by cases h) hmx hby (Nat.zero_le _) ?_
                intro g' cp w7 hown7 hgr7 hat7
                have nb : some b ≠ (Value.slice aA xs[d].ctors[0].args.length acap).ownBlock := fun e => (HROW.out b (mem_rowOf.2 e.symm)).2.1 rfl
                have nb2 : some b2 ≠ (Value.slice aA xs[d].ctors[0].args.length acap).ownBlock := fun e => (HROW.out b2 (mem_rowOf.2 e.symm)).2.2.1 rfl
                have l7 : w6.heap.size ≤ (w6.alloc (.cells #[.int .i64 x, .int .i64 y] 32)).heap.size := by rw [World.size_alloc]; exact Nat.le_succ _
                have l8 : b < w6.heap.size := Nat.lt_of_lt_of_le hbl hzE
                have l9 : b2 < w6.heap.size := Nat.lt_of_lt_of_le hb2l hzE
                have s7 : w7.cell? ⟨b, off + d * 2 + 1, none⟩ = some (.slice (some ⟨b2, off2, none⟩) xs[d].ctors.length cap2) := (World.grownBy.cell_far hgr7 ⟨b, off + d * 2 + 1, none⟩ (Nat.lt_of_lt_of_le l8 l7) nb).trans ((World.cell?_alloc_lt _ _ _ l8).trans hSE)
                have t7 : w7.cell? ⟨b2, off2 + 1, none⟩ = some (.slice aA xs[d].ctors[0].args.length acap) := (World.grownBy.cell_far hgr7 ⟨b2, off2 + 1, none⟩ (Nat.lt_of_lt_of_le l9 l7) nb2).trans ((World.cell?_alloc_lt _ _ _ l9).trans hTE)
                have f7 : w7.frozen? ⟨b2, off2 + 1, none⟩ = false := (World.grownBy.frozen_far hgr7 ⟨b2, off2 + 1, none⟩ (Nat.lt_of_lt_of_le l9 l7) nb2).trans (Eq.trans (World.frozen?_of_block (Below.heap_alloc _ _ _ l9)) hfE)
                have HFin := Lib.hid (HFE.out g' cp w7 _ hown7 hgr7 hat7)
                refine hK.out _ _ s7 (fun _ => t7) ?_
                clear hK K
                (try simp only [Act.put, List.setIfInBounds_toArray, List.set_cons_zero, List.set_cons_succ])
                refine wpAnyB_take (i := 22) (v := ?_) rfl (by decide) (by kernel_rfl) (by kernel_rfl) (by kernel_rfl) (fun _ _ _ h => h) (Or.inl ⟨by rfl, ?hy22⟩) s7 (fun _ => t7) ?_
                case hy22 => (intro W hSw; (try dsimp only at hSw); go_simp; try with_reducible rfl)
                (try simp only [Act.put, List.setIfInBounds_toArray, List.set_cons_zero, List.set_cons_succ])
                refine wpAnyB_take (i := 23) (v := ?_) rfl (by decide) (by kernel_rfl) (by kernel_rfl) (by kernel_rfl) (fun _ _ _ h => h) (Or.inl ⟨by rfl, ?hy23⟩) s7 (fun _ => t7) ?_
                case hy23 => (intro W hSw; (try dsimp only at hSw); go_simp; try with_reducible rfl)
                (try simp only [Act.put, List.setIfInBounds_toArray, List.set_cons_zero, List.set_cons_succ])
                refine wpAnyB_ready (rs := [24]) (by kernel_rfl) (by simp) ?_
                refine AllReadyB.cons rfl (fun K hK => ?_) AllReadyB.nil
                go_simp
                refine hK.out _ _ ((World.cell?_setCell_far _ _ _ _ (by show b2 ≠ b; exact fun e => hbb e.symm)).trans s7) (fun h => by cases h) ?_
                clear hK K
                (try simp only [Act.put, List.setIfInBounds_toArray, List.set_cons_zero, List.set_cons_succ])
                refine wpAnyB_end (by kernel_rfl) ?_
                clear hS1 hT1 hSE hTE HOE hzE hfE HFE nb nb2 l7 l8 l9 s7 t7 f7 hown7 hgr7 hat7 HH HOWN HROW f3 kc c1 hmx hby
                go_wp2
                go_ret
                exact HFin.out
            · go_simp
              refine hK.out _ _ (((Chg.refl [g] wd).alloc _).cell hbl hbg |>.trans kc) (fun _ => ((Chg.refl [g] wd).alloc _).cell hb2l hb2g |>.trans c1) ?_
              clear hK K
              (try simp only [Act.put, List.setIfInBounds_toArray, List.set_cons_zero, List.set_cons_succ])
              refine wpAnyB_ready (rs := [14]) (by kernel_rfl) (by simp) ?_
              refine AllReadyB.cons rfl (fun K hK => ?_) AllReadyB.nil
              go_simp
              refine hK.out _ _ ((((Chg.refl [g] wd).alloc _).alloc _).cell hbl hbg |>.trans kc) (fun _ => (((Chg.refl [g] wd).alloc _).alloc _).cell hb2l hb2g |>.trans c1) ?_
              clear hK K
              (try simp only [Act.put, List.setIfInBounds_toArray, List.set_cons_zero, List.set_cons_succ])
              refine wpAnyB_ready (rs := [15]) (by kernel_rfl) (by simp) ?_
              refine AllReadyB.cons rfl (fun K hK => ?_) AllReadyB.nil
              go_simp
              go_at_call 73
              refine (num_at (LitN.new2 wd _ [9, -2, 0, -1] (by decide)) (by decide) (by decide) (p + 1 + 1) g ((HRD.out.below ((Below.refl _ _).alloc (Nat.le_refl _) _)).below ((Below.refl _ _).alloc (Nat.le_refl _) _)) (by omega) hgs1).mono ?_
              rintro e w5 ⟨x, rfl, hRw5, hCw5⟩
              have hC5 : Chg [g] wd w5 := (((Chg.refl [g] wd).alloc _).alloc _).trans hCw5
              have hLB : LitN w5 wd.heap.size [0, 4, -1, -2] := ((LitN.new wd [0, 4, -1, -2] (by decide)).alloc _).chg hCw5 (by rw [List.mem_singleton]; exact hgs)
              dsimp only
              refine hK.out _ _ (((hC5).cell hbl hbg).trans kc) (fun _ => ((hC5).cell hb2l hb2g).trans c1) ?_
              clear hK K
              (try simp only [Act.put, List.setIfInBounds_toArray, List.set_cons_zero, List.set_cons_succ])
              refine wpAnyB_ready (rs := [18]) (by kernel_rfl) (by simp) ?_
              refine AllReadyB.cons rfl (fun K hK => ?_) AllReadyB.nil
              go_simp
              go_at_call 73
              refine (num_at hLB (by decide) (by decide) (p + 1 + 1 + 1) g hRw5 (by omega) hgs).mono ?_
              rintro e w6 ⟨y, rfl, hRw6, hCw6⟩
              have hC6 : Chg [g] wd w6 := hC5.trans hCw6
              have hSE : w6.cell? ⟨b, off + d * 2 + 1, none⟩ = some (.slice (some ⟨b2, off2, none⟩) xs[d].ctors.length cap2) := ((hC6).cell hbl hbg).trans kc
              have hTE : w6.cell? ⟨b2, off2 + 1, none⟩ = some (.slice aA xs[d].ctors[0].args.length acap) := ((hC6).cell hb2l hb2g).trans c1
              have HOE : Hid (Own w6 0 32 2 TyR xs[d].ctors[0].args (.slice aA xs[d].ctors[0].args.length acap) []) := HOWN.out.mono0 (w' := w6) (fun x cs G (h : TyR wd x cs G) => (h : TyR w6 x cs G)) ((hC6).kept (fun x hx => (HROW.out x hx).2.2.2) (fun x hx => (HROW.out x hx).1))
              have hzE : wd.heap.size ≤ w6.heap.size := (hC6).size
              have hfE : w6.frozen? ⟨b2, off2 + 1, none⟩ = false := (World.frozen?_of_block (a := ⟨b2, off2 + 1, none⟩) ((hC6).block _ hb2l hb2g)).trans f3
              have hFinE := HH.out w6 (p + 1 + 1 + 1 + 1) ⟨x, y⟩
              have HFE := Lib.hid (fun g' c' w3' o => hFinE g' c' w3' o hRw6 (hC6) (by omega))
              clear hFinE
              dsimp only
              refine hK.out _ _ hSE (fun _ => hTE) ?_
              clear hK K
              (try simp only [Act.put, List.setIfInBounds_toArray, List.set_cons_zero, List.set_cons_succ])
              refine wpAnyB_take (i := 19) (v := ?_) rfl (by decide) (by kernel_rfl) (by kernel_rfl) (by kernel_rfl) (fun _ _ _ h => h) (Or.inl ⟨by rfl, ?hy19⟩) hSE (fun _ => hTE) ?_
              case hy19 => (intro W hSw; (try dsimp only at hSw); go_simp; try with_reducible rfl)
              (try simp only [Act.put, List.setIfInBounds_toArray, List.set_cons_zero, List.set_cons_succ])
              refine wpAnyB_ready (rs := [20]) (by kernel_rfl) (by simp) ?_
              refine AllReadyB.cons rfl (fun K hK => ?_) AllReadyB.nil
              go_simp
              refine hK.out _ _ ((World.cell?_alloc_lt _ _ _ (Nat.lt_of_lt_of_le hbl hzE)).trans hSE) (fun _ => (World.cell?_alloc_lt _ _ _ (Nat.lt_of_lt_of_le hb2l hzE)).trans hTE) ?_
              clear hK K
              (try simp only [Act.put, List.setIfInBounds_toArray, List.set_cons_zero, List.set_cons_succ])
              refine wpAnyB_ready (rs := [21]) (by kernel_rfl) (by simp) ?_
              refine AllReadyB.cons rfl (fun K hK => ?_) AllReadyB.nil
              refine step_push1 (P := Try.prog) rfl _ _ 136 rfl j0 _ 16 Try.underlying136 HJ.out HJ0.out HJ1.out HJ2.out rfl (by decide) TyR_len' TyR_mono' (by rfl) HOE.out ⟨x, y⟩ 32 [.int .i64 x, .int .i64 y] [] _ (by rfl) rfl (by simp [Value.oneCell']) ⟨rfl, rfl⟩ (Under.nil _) (fun _ _ h => by cases h) hmx hby (Nat.zero_le _) ?_
              intro g' cp w7 hown7 hgr7 hat7
              have nb : some b ≠ (Value.slice aA xs[d].ctors[0].args.length acap).ownBlock := fun e => (HROW.out b (mem_rowOf.2 e.symm)).2.1 rfl
              have nb2 : some b2 ≠ (Value.slice aA xs[d].ctors[0].args.length acap).ownBlock := fun e => (HROW.out b2 (mem_rowOf.2 e.symm)).2.2.1 rfl
              have l7 : w6.heap.size ≤ (w6.alloc (.cells #[.int .i64 x, .int .i64 y] 32)).heap.size := by rw [World.size_alloc]; exact Nat.le_succ _
              have l8 : b < w6.heap.size := Nat.lt_of_lt_of_le hbl hzE
              have l9 : b2 < w6.heap.size := Nat.lt_of_lt_of_le hb2l hzE
              have s7 : w7.cell? ⟨b, off + d * 2 + 1, none⟩ = some (.slice (some ⟨b2, off2, none⟩) xs[d].ctors.length cap2) := (World.grownBy.cell_far hgr7 ⟨b, off + d * 2 + 1, none⟩ (Nat.lt_of_lt_of_le l8 l7) nb).trans ((World.cell?_alloc_lt _ _ _ l8).trans hSE)
              have t7 : w7.cell? ⟨b2, off2 + 1, none⟩ = some (.slice aA xs[d].ctors[0].args.length acap) := (World.grownBy.cell_far hgr7 ⟨b2, off2 + 1, none⟩ (Nat.lt_of_lt_of_le l9 l7) nb2).trans ((World.cell?_alloc_lt _ _ _ l9).trans hTE)
              have f7 : w7.frozen? ⟨b2, off2 + 1, none⟩ = false := (World.grownBy.frozen_far hgr7 ⟨b2, off2 + 1, none⟩ (Nat.lt_of_lt_of_le l9 l7) nb2).trans (Eq.trans (World.frozen?_of_block (Below.heap_alloc _ _ _ l9)) hfE)
              have HFin := Lib.hid (HFE.out g' cp w7 _ hown7 hgr7 hat7)
              refine hK.out _ _ s7 (fun _ => t7) ?_
              clear hK K
              (try simp only [Act.put, List.setIfInBounds_toArray, List.set_cons_zero, List.set_cons_succ])
              refine wpAnyB_take (i := 22) (v := ?_) rfl (by decide) (by kernel_rfl) (by kernel_rfl) (by kernel_rfl) (fun _ _ _ h => h) (Or.inl ⟨by rfl, ?hy22⟩) s7 (fun _ => t7) ?_
              case hy22 => (intro W hSw; (try dsimp only at hSw); go_simp; try with_reducible rfl)
              (try simp only [Act.put, List.setIfInBounds_toArray, List.set_cons_zero, List.set_cons_succ])
              refine wpAnyB_take (i := 23) (v := ?_) rfl (by decide) (by kernel_rfl) (by kernel_rfl) (by kernel_rfl) (fun _ _ _ h => h) (Or.inl ⟨by rfl, ?hy23⟩) s7 (fun _ => t7) ?_
              case hy23 => (intro W hSw; (try dsimp only at hSw); go_simp; try with_reducible rfl)
              (try simp only [Act.put, List.setIfInBounds_toArray, List.set_cons_zero, List.set_cons_succ])
              refine wpAnyB_ready (rs := [24]) (by kernel_rfl) (by simp) ?_
              refine AllReadyB.cons rfl (fun K hK => ?_) AllReadyB.nil
              go_simp
              refine hK.out _ _ ((World.cell?_setCell_far _ _ _ _ (by show b2 ≠ b; exact fun e => hbb e.symm)).trans s7) (fun h => by cases h) ?_
              clear hK K
              (try simp only [Act.put, List.setIfInBounds_toArray, List.set_cons_zero, List.set_cons_succ])
              refine wpAnyB_end (by kernel_rfl) ?_
              clear hS1 hT1 hSE hTE HOE hzE hfE HFE nb nb2 l7 l8 l9 s7 t7 f7 hown7 hgr7 hat7 HH HOWN HROW f3 kc c1 hmx hby
              go_wp2
              go_ret
              exact HFin.out
          | false =>
            cases c4q : ((r : Int) == 4) with
            | true =>
              have hCd := HC3.out.drew
              clear HC3
              obtain ⟨b2, off2, cap2, aA, acap, kc, hbb, hbg, hb2g, hbl, hb2l, hz2, c0, c1, c2, hown, hrow, hal, H2, H4, H3⟩ := hCd.ctor (p := p) h0 HSM.out hd hk0
              have HH := Lib.hid H4
              have hR3 := Lib.hid hCd.rd
              have f3 := hz2 (off2 + 2)
              clear c0 c1 hown hrow hal H2 H4 H3 hCd hz2
              go_wp2_with fail
              refine wp_region_B (S := fun w' => w'.cell? ⟨b, off + d * 2 + 1, none⟩ = some (.slice (some ⟨b2, off2, none⟩) xs[d].ctors.length cap2)) (T := fun _ => True) (d := 10) (by kernel_rfl) ?_
              generalize w3.drew = wd at *
              have hS1 : wd.cell? ⟨b, off + d * 2 + 1, none⟩ = some (.slice (some ⟨b2, off2, none⟩) xs[d].ctors.length cap2) := kc
              have hT1 : True := trivial
              refine wpAnyB_take (i := 0) (v := ?_) rfl (by decide) (by kernel_rfl) (by kernel_rfl) (by kernel_rfl) (fun _ _ _ h => h) (Or.inl ⟨by rfl, ?hy0⟩) hS1 (fun _ => hT1) ?_
              case hy0 => (intro W hSw; (try dsimp only at hSw); go_simp; try with_reducible rfl)
              (try simp only [Act.put, List.setIfInBounds_toArray, List.set_cons_zero, List.set_cons_succ])
              refine wpAnyB_take (i := 1) (v := ?_) rfl (by decide) (by kernel_rfl) (by kernel_rfl) (by kernel_rfl) (fun _ _ _ h => h) (Or.inl ⟨by rfl, ?hy1⟩) hS1 (fun _ => hT1) ?_
              case hy1 => (intro W hSw; (try dsimp only at hSw); go_simp; try with_reducible rfl)
              (try simp only [Act.put, List.setIfInBounds_toArray, List.set_cons_zero, List.set_cons_succ])
              refine wpAnyB_take (i := 2) (v := ?_) rfl (by decide) (by kernel_rfl) (by kernel_rfl) (by kernel_rfl) (fun _ _ _ h => h) (Or.inl ⟨by rfl, ?hy2⟩) hS1 (fun _ => hT1) ?_
              case hy2 => (intro W hSw; (try dsimp only at hSw); go_simp; try with_reducible rfl)
              (try simp only [Act.put, List.setIfInBounds_toArray, List.set_cons_zero, List.set_cons_succ])
              refine wpAnyB_take (i := 3) (v := ?_) rfl (by decide) (by kernel_rfl) (by kernel_rfl) (by kernel_rfl) (fun _ _ _ h => h) (Or.inl ⟨by rfl, ?hy3⟩) hS1 (fun _ => hT1) ?_
              case hy3 => (intro W hSw; (try dsimp only at hSw); go_simp; try with_reducible rfl)
              (try simp only [Act.put, List.setIfInBounds_toArray, List.set_cons_zero, List.set_cons_succ])
              refine wpAnyB_take (i := 4) (v := ?_) rfl (by decide) (by kernel_rfl) (by kernel_rfl) (by kernel_rfl) (fun _ _ _ h => h) (Or.inl ⟨by rfl, ?hy4⟩) hS1 (fun _ => hT1) ?_
              case hy4 => (intro W hSw; (try dsimp only at hSw); go_simp; try with_reducible rfl)
              (try simp only [Act.put, List.setIfInBounds_toArray, List.set_cons_zero, List.set_cons_succ])
              refine wpAnyB_take (i := 5) (v := ?_) rfl (by decide) (by kernel_rfl) (by kernel_rfl) (by kernel_rfl) (fun _ _ _ h => h) (Or.inl ⟨by rfl, ?hy5⟩) hS1 (fun _ => hT1) ?_
              case hy5 => (intro W hSw; (try dsimp only at hSw); go_simp; try with_reducible rfl)
              (try simp only [Act.put, List.setIfInBounds_toArray, List.set_cons_zero, List.set_cons_succ])
              refine wpAnyB_ready (rs := [6]) (by kernel_rfl) (by simp) ?_
              refine AllReadyB.cons rfl (fun K hK => ?_) AllReadyB.nil
              go_simp
              refine hK.out _ _ ((World.cell?_alloc_lt _ _ _ hbl).trans kc) (fun _ => trivial) ?_
              clear hK K
              (try simp only [Act.put, List.setIfInBounds_toArray, List.set_cons_zero, List.set_cons_succ])
              refine wpAnyB_ready (rs := [7]) (by kernel_rfl) (by simp) ?_
              refine AllReadyB.cons rfl (fun K hK => ?_) AllReadyB.nil
              go_simp
              go_at_call 73
              refine (num_lit [4, -1, 1] (by decide) (by decide) (p + 1 + 1) g wd hR3.out (by omega)).mono ?_
              rintro e w4 ⟨s, hs, rfl, hR4, hC4⟩
              have hC5 := hC4
              have hS4 : w4.cell? ⟨b, off + d * 2 + 1, none⟩ = some (.slice (some ⟨b2, off2, none⟩) xs[d].ctors.length cap2) := (hC5.cell hbl hbg).trans kc
              have x4 : w4.cell? ⟨b2, off2 + 2, none⟩ = some (.int .i64 xs[d].ctors[0].idx) := (hC5.cell hb2l hb2g).trans c2
              have f4 : w4.frozen? ⟨b2, off2 + 2, none⟩ = false := (World.frozen?_of_block (a := ⟨b2, off2 + 2, none⟩) (hC5.block _ hb2l hb2g)).trans f3
              have HFin := Lib.hid (HH.out w4 _ s hR4 hC5 (by omega))
              dsimp only
              refine hK.out _ _ hS4 (fun _ => trivial) ?_
              clear hK K
              (try simp only [Act.put, List.setIfInBounds_toArray, List.set_cons_zero, List.set_cons_succ])
              refine wpAnyB_take (i := 8) (v := ?_) rfl (by decide) (by kernel_rfl) (by kernel_rfl) (by kernel_rfl) (fun _ _ _ h => h) (Or.inl ⟨by rfl, ?hy8⟩) hS4 (fun _ => hT1) ?_
              case hy8 => (intro W hSw; (try dsimp only at hSw); go_simp; try with_reducible rfl)
              (try simp only [Act.put, List.setIfInBounds_toArray, List.set_cons_zero, List.set_cons_succ])
              refine wpAnyB_take (i := 9) (v := ?_) rfl (by decide) (by kernel_rfl) (by kernel_rfl) (by kernel_rfl) (fun _ _ _ h => h) (Or.inl ⟨by rfl, ?hy9⟩) hS4 (fun _ => hT1) ?_
              case hy9 => (intro W hSw; (try dsimp only at hSw); go_simp; try with_reducible rfl)
              (try simp only [Act.put, List.setIfInBounds_toArray, List.set_cons_zero, List.set_cons_succ])
              refine wpAnyB_ready (rs := [10]) (by kernel_rfl) (by simp) ?_
              refine AllReadyB.cons rfl (fun K hK => ?_) AllReadyB.nil
              go_simp
              refine hK.out _ _ ((World.cell?_setCell_far _ _ _ _ (by show b2 ≠ b; exact fun e => hbb e.symm)).trans hS4) (fun _ => trivial) ?_
              clear hK K
              (try simp only [Act.put, List.setIfInBounds_toArray, List.set_cons_zero, List.set_cons_succ])
              refine wpAnyB_end (by kernel_rfl) ?_
              clear hS1 hT1 hS4 x4 f4 hC5 hC4 hR4 HH hR3 f3 kc c2
              go_wp2
              go_ret
              exact HFin.out
            | false =>
              cases c5q : ((r : Int) == 5) with
              | true =>
                obtain ⟨kA, kcap, F2, n0, k0, z0, hb, hbl, hk1, hk2, hdx, hF2, hname, hctors⟩ := HC3.out.data (p := p) h0 HSM.out hd
                have HDX := Lib.hid hdx
                have HF2 := Lib.hid hF2
                have hbs : w.heap.size ≤ w3.heap.size := HC3.out.chg.size
                clear z0 hdx hF2 hname hctors
                go_wp2_with (at_builtin; refine Halt.mk ?_)
                refine Halt.of (wpList_push1 (P := Try.prog) rfl _ _ 30 rfl m0 _ 40 Try.underlying30 HM.out HM0.out HM1.out HM2.out rfl (by decide) DtO_len DtO_mono (by rfl) HC3.out.own xs[d] 97 [.string xs[d].name, .slice kA xs[d].ctors.length kcap] F2 _ (by rfl) rfl (by simp [Value.oneCell']) HDX.out (fun x hx => (HF2.out x hx).2.2) (fun x hx hG => (HF2.out x hG).1 (by rw [rowOf_some, List.mem_singleton] at hx; exact hx)) (by unfold maxLen; omega) (by omega) hbs ?_)
                intro g' cp w7 hown7 hgr7 hat7
                have HFin := Lib.hid (HC3.out.twice (p := p) h0 HSM.out hd (fun x hx => (HF2.out x hx).2.1) rfl hown7 hgr7 (by omega))
                clear hown7 hgr7 hat7 n0 k0 hk1 hk2 HDX HF2 HC3
                go_wp2
                go_ret
                exact HFin.out
              | false =>
                have HFin := Lib.hid (HC3.out.done (p := p) h0 HSM.out (by omega))
                clear HC3
                go_wp2
                go_ret
                exact HFin.out
end Go.Proofs.Ytilndhmegaccmaa

namespace Go.Proofs.Ytilndhmegaccmaa
open Go.RowKit

theorem results_tmp_cell_row {P : Program} {fn : Func} {u p : Tmp} {ty : TypeId} (h : fn.results = #[.tmp u, .cell p ty]) (tmps : Array Value) (w : World) (g : Nat) (t : TypeId) (cs : Array Value) (fr : Nat × Nat) (d : TypeDesc)
    (hp : tmps.getD p undef = .pointer (some ⟨g, 0, none⟩)) (hg : w.heap[g]? = some (.cells cs t fr))
    (hu : P.underlying ty = some d) (hd : (match d with | .struct _ | .array _ _ => true | _ => false) = true) (hi : (P.info? ty).map (·.size) = some cs.size) :
    (results fn tmps).run P w = .ok (.tuple #[tmps.getD u undef, .agg cs]) w := by
  have hp' : tmps[p]?.getD undef = .pointer (some ⟨g, 0, none⟩) := by simpa using hp
  simp [results, h, hp', asAddr, run_loadVar_row w g t ty cs fr d hg hu hd hi]
theorem results_tmp_cell_tmp {P : Program} {fn : Func} {u p v : Tmp} {ty : TypeId} (h : fn.results = #[.tmp u, .cell p ty, .tmp v]) (tmps : Array Value) (w : World) (g : Nat) (t : TypeId) (cs : Array Value) (fr : Nat × Nat) (d : TypeDesc)
    (hp : tmps.getD p undef = .pointer (some ⟨g, 0, none⟩)) (hg : w.heap[g]? = some (.cells cs t fr))
    (hu : P.underlying ty = some d) (hd : (match d with | .struct _ | .array _ _ => true | _ => false) = true) (hi : (P.info? ty).map (·.size) = some cs.size) :
    (results fn tmps).run P w = .ok (.tuple #[tmps.getD u undef, .agg cs, tmps.getD v undef]) w := by
  have hp' : tmps[p]?.getD undef = .pointer (some ⟨g, 0, none⟩) := by simpa using hp
  simp [results, h, hp', asAddr, run_loadVar_row w g t ty cs fr d hg hu hd hi]
/-- a world of the call's own -/
def DrewW (w : World) (e : Ending) (w' : World) : Prop := ∃ xs v F, e = .returned v ∧ Below w.heap.size w w' ∧ Arr w' (DtR w') xs v F ∧ Fresh w w' F
/-- a world and a type -/
def DrewWT (w : World) (e : Ending) (w' : World) : Prop := ∃ xs v F, ∃ t : Ty, e = .returned (.tuple #[v, .agg #[.int .i64 t.d, .int .i64 t.i]]) ∧ Below w.heap.size w w' ∧ Arr w' (DtR w') xs v F ∧ Fresh w w' F
/-- a world, a type and a number -/
def DrewWTN (w : World) (e : Ending) (w' : World) : Prop := ∃ xs v F, ∃ t : Ty, ∃ n : Int, e = .returned (.tuple #[v, .agg #[.int .i64 t.d, .int .i64 t.i], .int .i64 n]) ∧ Below w.heap.size w w' ∧ Arr w' (DtR w') xs v F ∧ Fresh w w' F

theorem Chg.low {g B : Nat} {w w' : World} (h : Chg [g] w w') (hg : B ≤ g) (hB : B ≤ w.heap.size) : Below B w w' := h.below (fun b hb => by rw [List.mem_singleton] at hb; omega) hB

/-- two worlds -/
def DrewWW (w : World) (e : Ending) (w' : World) : Prop := ∃ xs v F ys v2 F2, e = .returned (.tuple #[v, v2]) ∧ Below w.heap.size w w' ∧ Arr w' (DtR w') xs v F ∧ Under w'.heap.size F ∧ Arr w' (DtR w') ys v2 F2 ∧ Under w'.heap.size F2
set_option maxRecDepth 100000 in
set_option maxHeartbeats 1600000 in
theorem spec_l1Two (bs : List Int) (w : World) (v : Value) (F : List Nat) (hx : Arr w (ByR w) bs v F) (hf : Under w.heap.size F) :
    Calls Try.prog 72 #[v] w (DrewWT w) := by
  have hb1 : Below w.heap.size w (w.alloc (.cells #[.int .i64 0, .int .i64 0] 32)) := (Below.refl _ _).alloc (Nat.le_refl _) _
  have HX1 : Hid (Arr (w.alloc (.cells #[.int .i64 0, .int .i64 0] 32)) (ByR (w.alloc (.cells #[.int .i64 0, .int .i64 0] 32))) bs v F) := ArrBy.mono hx (.of_below hb1 hf)
  have HU1 : Hid (Under (w.alloc (.cells #[.int .i64 0, .int .i64 0] 32)).heap.size F) := hf.mono hb1.size
  have KH1 : Hid (Blk (w.alloc (.cells #[.int .i64 0, .int .i64 0] 32)) w.heap.size 32 #[.int .i64 0, .int .i64 0]) := Blk.new _ _ _
  have hs1 : (w.alloc (.cells #[.int .i64 0, .int .i64 0] 32)).heap.size = w.heap.size + 1 := World.size_alloc _ _
  clear hx hf
  go_enter Try.func72, Try.ntmps72
  go_wp2_with fail
  generalize w.alloc (.cells #[.int .i64 0, .int .i64 0] 32) = w1 at *
  refine (spec_l17Open bs w1 v F HX1.out HU1.out).mono ?_
  rintro e w2 ⟨g, rfl, hge, hb2, hR2⟩
  have HR2 := Lib.hid hR2
  have hB2 : Below w.heap.size w w2 := hb1.trans (hb2.mono hb1.size)
  have KH2 := Lib.hid (KH1.out.same (hb2.block _ KH1.out.lt))
  have hgl := hR2.lt
  clear hR2 hb2 KH1 HX1 HU1
  go_wp2_with fail
  refine (spec_l1World 0 g w2 HR2.out (by omega)).mono ?_
  rintro e w3 ⟨xs, v3, F3, q3, rfl, ⟨hok, h0⟩, ha3, hfs3, hR3, hq3, hC3⟩
  have hW := worldOK hok
  have hlen := hW.len
  have HSM := Lib.hid (SmallW.of hW)
  have HR3 := Lib.hid hR3
  have HA3 := Lib.hid ha3
  have HF3 := Lib.hid hfs3
  have hB3 : Below w.heap.size w w3 := hB2.trans (hC3.low (by omega) hB2.size)
  have KH3 := Lib.hid (KH2.out.same (hC3.block _ KH2.out.lt (by simp; omega)))
  have hz3 := hC3.size
  obtain ⟨A3, cap3, rfl, hc1, hc2⟩ := ha3.form
  clear hR3 ha3 hfs3 hC3 hok hW KH2 HR2
  go_wp2_with fail
  refine (spec_l1Some q3 g w3 HR3.out (by omega) A3 xs.length cap3 h0 (by omega)).mono ?_
  rintro e w4 ⟨t, q4, rfl, hR4, hq4, hC4⟩
  have HR4 := Lib.hid hR4
  have HA4 : Hid (Arr w4 (DtR w4) xs (.slice A3 xs.length cap3) F3) := HA3.out.mono (hC4.kept HF3.out.under (fun b hb => by have := (HF3.out b hb).1; simp; omega)) fun y _ cs G hk h => DtR.mono (w := w3) (w' := w4) y cs G hk h
  have HU4 : Hid (Under w4.heap.size F3) := HF3.out.under.mono hC4.size
  have hB4 : Below w.heap.size w w4 := hB3.trans (hC4.low (by omega) hB3.size)
  have KH4 := Lib.hid (KH3.out.same (hC4.block _ KH3.out.lt (by simp; omega)))
  have hz4 := hC4.size
  clear hR4 hC4 KH3 HA3 HR3
  go_wp2_with fail
  have hb5 : Below w4.heap.size w4 (w4.alloc (.cells #[.int .i64 t.d, .int .i64 t.i] 32)) := (Below.refl _ _).alloc (Nat.le_refl _) _
  have HR5 : Hid (Rd (w4.alloc (.cells #[.int .i64 t.d, .int .i64 t.i] 32)).drew g q4) := HR4.out.below hb5.drew
  have HA5 : Hid (Arr (w4.alloc (.cells #[.int .i64 t.d, .int .i64 t.i] 32)).drew (DtR (w4.alloc (.cells #[.int .i64 t.d, .int .i64 t.i] 32)).drew) xs (.slice A3 xs.length cap3) F3) := ArrDt.drew (ArrDt.below HA4.out hb5 HU4.out)
  have HU5 : Hid (Under (w4.alloc (.cells #[.int .i64 t.d, .int .i64 t.i] 32)).drew.heap.size F3) := HU4.out.mono hb5.size
  have hB5 : Below w.heap.size w (w4.alloc (.cells #[.int .i64 t.d, .int .i64 t.i] 32)).drew := (hB4.trans (hb5.mono hB4.size)).drew
  have KH5 : Hid (Blk (w4.alloc (.cells #[.int .i64 t.d, .int .i64 t.i] 32)).drew w.heap.size 32 #[.int .i64 0, .int .i64 0]) := KH4.out.same (hb5.block _ KH4.out.lt)
  have KK5 : Hid (Blk (w4.alloc (.cells #[.int .i64 t.d, .int .i64 t.i] 32)).drew w4.heap.size 32 #[.int .i64 t.d, .int .i64 t.i]) := Blk.new _ _ _
  have hz5 : w4.heap.size < (w4.alloc (.cells #[.int .i64 t.d, .int .i64 t.i] 32)).drew.heap.size := KK5.out.lt
  have hz6 : w2.heap.size ≤ (w4.alloc (.cells #[.int .i64 t.d, .int .i64 t.i] 32)).drew.heap.size := by omega
  have HKg : Hid (w4.heap.size ≠ g ∧ w.heap.size ≠ g ∧ w.heap.size ≠ w4.heap.size) := ⟨by omega, by omega, by omega⟩
  refine wp_region_B (S := fun w' => w'.cell? ⟨w4.heap.size, 0, none⟩ = some (.int .i64 t.d) ∧ w'.cell? ⟨w4.heap.size, 1, none⟩ = some (.int .i64 t.i)) (T := fun _ => True) (d := 5) (by kernel_rfl) ?_
  generalize (w4.alloc (.cells #[.int .i64 t.d, .int .i64 t.i] 32)).drew = wd at *
  generalize w4.heap.size = k at *
  clear hb5 HR4 HA4 HU4 hB4 KH4 HF3
  have hS1 : wd.cell? ⟨k, 0, none⟩ = some (.int .i64 t.d) ∧ wd.cell? ⟨k, 1, none⟩ = some (.int .i64 t.i) := ⟨(KK5.out.cell 0).trans (by simp), (KK5.out.cell 1).trans (by simp)⟩
  have hT1 : True := trivial
  refine wpAnyB_take (i := 3) (v := ?_) rfl (by decide) (by kernel_rfl) (by kernel_rfl) (by kernel_rfl) (fun _ _ _ h => h) (Or.inl ⟨by rfl, ?hy3⟩) hS1 (fun _ => hT1) ?_
  case hy3 => (intro W hSw; obtain ⟨hSa, hSb⟩ := hSw; (try dsimp only at hSa hSb); go_simp; try with_reducible rfl)
  (try simp only [Act.put, List.getElem_toArray, List.getElem_cons_zero, List.getElem_cons_succ, List.setIfInBounds_toArray, List.set_cons_zero, List.set_cons_succ])
  refine wpAnyB_take (i := 0) (v := ?_) rfl (by decide) (by kernel_rfl) (by kernel_rfl) (by kernel_rfl) (fun _ _ _ h => h) (Or.inl ⟨by rfl, ?hy0⟩) hS1 (fun _ => hT1) ?_
  case hy0 => (intro W hSw; (try dsimp only at hSw); go_simp; try with_reducible rfl)
  (try simp only [Act.put, List.getElem_toArray, List.getElem_cons_zero, List.getElem_cons_succ, List.setIfInBounds_toArray, List.set_cons_zero, List.set_cons_succ])
  refine wpAnyB_take (i := 1) (v := ?_) rfl (by decide) (by kernel_rfl) (by kernel_rfl) (by kernel_rfl) (fun _ _ _ h => h) (Or.inl ⟨by rfl, ?hy1⟩) hS1 (fun _ => hT1) ?_
  case hy1 => (intro W hSw; (try dsimp only at hSw); go_simp; try with_reducible rfl)
  (try simp only [Act.put, List.getElem_toArray, List.getElem_cons_zero, List.getElem_cons_succ, List.setIfInBounds_toArray, List.set_cons_zero, List.set_cons_succ])
  refine wpAnyB_ready (rs := [2]) (by kernel_rfl) (by simp) ?_
  refine AllReadyB.cons rfl (fun K hK => ?_) AllReadyB.nil
  go_simp
  go_at_call 56
  refine (spec_l1Mutate q4 g wd HR5.out (by omega) xs _ F3 HA5.out HU5.out h0 (by omega) 4 (by omega) HSM.out).mono ?_
  rintro e w6 ⟨ys, v6, F6, q6, rfl, -, ha6, hfs6, -, -, hC6⟩
  have hk6 : k ∉ [g] := by rw [List.mem_singleton]; exact HKg.out.1
  have hh6 : w.heap.size ∉ [g] := by rw [List.mem_singleton]; exact HKg.out.2.1
  have hS6 : w6.cell? ⟨k, 0, none⟩ = some (.int .i64 t.d) ∧ w6.cell? ⟨k, 1, none⟩ = some (.int .i64 t.i) := ⟨(hC6.cell hz5 hk6).trans hS1.1, (hC6.cell hz5 hk6).trans hS1.2⟩
  have KH6 : Blk w6 w.heap.size 32 #[.int .i64 0, .int .i64 0] := KH5.out.same (hC6.block _ KH5.out.lt hh6)
  have y0 : w6.cell? ⟨w.heap.size, 0, none⟩ = some (.int .i64 0) := (KH6.cell 0).trans (by simp)
  have y1 : w6.cell? ⟨w.heap.size, 1, none⟩ = some (.int .i64 0) := (KH6.cell 1).trans (by simp)
  have f0 := KH6.frozen 0
  have f1 := KH6.frozen 1
  have HS6 := Lib.hid hS6
  have hB6 : Below w.heap.size w w6 := hB5.trans (hC6.low (by omega) hB5.size)
  have hK7 : Blk ((w6.setCell ⟨w.heap.size, 0, none⟩ (.int .i64 t.d)).setCell ⟨w.heap.size, 1, none⟩ (.int .i64 t.i)) w.heap.size 32 #[.int .i64 t.d, .int .i64 t.i] := (KH6.set_ 0 _).set_ 1 _
  have hB7 : Below w.heap.size w ((w6.setCell ⟨w.heap.size, 0, none⟩ (.int .i64 t.d)).setCell ⟨w.heap.size, 1, none⟩ (.int .i64 t.i)) := (hB6.setCell (Nat.le_refl _) _).setCell (Nat.le_refl _) _
  have hhF : ∀ b ∈ F6, b ≠ w.heap.size := fun b hb e => by have := (hfs6 b hb).1; have := KH5.out.lt; omega
  have hA7 : Arr ((w6.setCell ⟨w.heap.size, 0, none⟩ (.int .i64 t.d)).setCell ⟨w.heap.size, 1, none⟩ (.int .i64 t.i)) (DtR ((w6.setCell ⟨w.heap.size, 0, none⟩ (.int .i64 t.d)).setCell ⟨w.heap.size, 1, none⟩ (.int .i64 t.i))) ys v6 F6 := ArrDt.mono ha6 (fun c hc => (Below.heap_setCell _ _ _ _ (hhF c hc)).trans (Below.heap_setCell _ _ _ _ (hhF c hc)))
  have hU7 : Fresh w ((w6.setCell ⟨w.heap.size, 0, none⟩ (.int .i64 t.d)).setCell ⟨w.heap.size, 1, none⟩ (.int .i64 t.i)) F6 := by
    have : ((w6.setCell ⟨w.heap.size, 0, none⟩ (.int .i64 t.d)).setCell ⟨w.heap.size, 1, none⟩ (.int .i64 t.i)).heap.size = w6.heap.size := by simp [World.setCell]
    exact fun b hb => ⟨Nat.le_trans hB5.size (hfs6 b hb).1, by rw [this]; exact (hfs6 b hb).2⟩
  have HFin : Hid (DrewWT w (.returned (.tuple #[v6, .agg #[.int .i64 t.d, .int .i64 t.i]])) ((w6.setCell ⟨w.heap.size, 0, none⟩ (.int .i64 t.d)).setCell ⟨w.heap.size, 1, none⟩ (.int .i64 t.i))) := ⟨ys, v6, F6, t, rfl, hB7, hA7, hU7⟩
  have HK7 := Lib.hid hK7
  clear hhF hA7 hU7 hB7 hK7 hB6 KH6 hC6 hfs6 ha6
  dsimp only
  refine hK.out _ _ hS6 (fun _ => trivial) ?_
  clear hK K
  (try simp only [Act.put, List.getElem_toArray, List.getElem_cons_zero, List.getElem_cons_succ, List.setIfInBounds_toArray, List.set_cons_zero, List.set_cons_succ])
  refine wpAnyB_take (i := 4) (v := ?_) rfl (by decide) (by kernel_rfl) (by kernel_rfl) (by kernel_rfl) (fun _ _ _ h => h) (Or.inl ⟨by rfl, ?hy4⟩) hS6 (fun _ => hT1) ?_
  case hy4 => (intro W hSw; (try dsimp only at hSw); go_simp; try with_reducible rfl)
  (try simp only [Act.put, List.getElem_toArray, List.getElem_cons_zero, List.getElem_cons_succ, List.setIfInBounds_toArray, List.set_cons_zero, List.set_cons_succ])
  refine wpAnyB_ready (rs := [5]) (by kernel_rfl) (by simp) ?_
  refine AllReadyB.cons rfl (fun K hK => ?_) AllReadyB.nil
  go_simp
  refine hK.out _ _ ⟨(World.cell?_setCell_far _ _ _ _ (by exact HKg.out.2.2)).trans ((World.cell?_setCell_far _ _ _ _ (by exact HKg.out.2.2)).trans HS6.out.1), (World.cell?_setCell_far _ _ _ _ (by exact HKg.out.2.2)).trans ((World.cell?_setCell_far _ _ _ _ (by exact HKg.out.2.2)).trans HS6.out.2)⟩ (fun _ => trivial) ?_
  clear hK K
  (try simp only [Act.put, List.getElem_toArray, List.getElem_cons_zero, List.getElem_cons_succ, List.setIfInBounds_toArray, List.set_cons_zero, List.set_cons_succ])
  refine wpAnyB_end (by kernel_rfl) ?_
  clear hS1 hT1 hS6 y0 y1 f0 f1
  go_wp2
  refine bodyPost_ret (results_tmp_cell_row rfl _ _ w.heap.size 32 #[.int .i64 t.d, .int .i64 t.i] (0, 0) _ rfl HK7.out Try.underlying32 rfl rfl) rfl ?_
  exact HFin.out
set_option maxRecDepth 100000 in
set_option maxHeartbeats 1600000 in
theorem spec_DrawLeastValue (bs : List Int) (w : World) (v : Value) (F : List Nat) (hx : Arr w (ByR w) bs v F) (hf : Under w.heap.size F) :
    Calls Try.prog 33 #[v] w (DrewWT w) := by
  have hb1 : Below w.heap.size w (w.alloc (.cells #[.int .i64 0, .int .i64 0] 32)) := (Below.refl _ _).alloc (Nat.le_refl _) _
  have HX1 : Hid (Arr (w.alloc (.cells #[.int .i64 0, .int .i64 0] 32)) (ByR (w.alloc (.cells #[.int .i64 0, .int .i64 0] 32))) bs v F) := ArrBy.mono hx (.of_below hb1 hf)
  have HU1 : Hid (Under (w.alloc (.cells #[.int .i64 0, .int .i64 0] 32)).heap.size F) := hf.mono hb1.size
  have KH1 : Hid (Blk (w.alloc (.cells #[.int .i64 0, .int .i64 0] 32)) w.heap.size 32 #[.int .i64 0, .int .i64 0]) := Blk.new _ _ _
  have hs1 : (w.alloc (.cells #[.int .i64 0, .int .i64 0] 32)).heap.size = w.heap.size + 1 := World.size_alloc _ _
  have HX0 := Lib.hid hx
  have HU0 := Lib.hid hf
  clear hx hf
  go_enter Try.func33, Try.ntmps33
  go_wp2_with fail
  generalize (w.alloc (.cells #[.int .i64 0, .int .i64 0] 32)) = w1 at *
  refine (spec_l1Two bs w1 v F HX1.out HU1.out).mono ?_
  rintro e w2 ⟨xs, v2, F2, t, rfl, hb2, ha2, hu2⟩
  have hB2 : Below w.heap.size w w2 := hb1.trans (hb2.mono hb1.size)
  have KH2 := KH1.out.same (hb2.block _ KH1.out.lt)
  have hns : ∀ c ∈ F2, c ≠ w.heap.size := fun c hc e => by have := (hu2 c hc).1; omega
  have y0 : w2.cell? ⟨w.heap.size, 0, none⟩ = some (.int .i64 0) := (KH2.cell 0).trans (by simp)
  have y1 : w2.cell? ⟨w.heap.size, 1, none⟩ = some (.int .i64 0) := (KH2.cell 1).trans (by simp)
  have f0 := KH2.frozen 0
  have f1 := KH2.frozen 1
  have HK7 : Hid (Blk ((w2.setCell ⟨w.heap.size, 0, none⟩ (.int .i64 t.d)).setCell ⟨w.heap.size, 1, none⟩ (.int .i64 t.i)) w.heap.size 32 #[.int .i64 t.d, .int .i64 t.i]) := (KH2.set_ 0 _).set_ 1 _
  have hB7 : Below w.heap.size w ((w2.setCell ⟨w.heap.size, 0, none⟩ (.int .i64 t.d)).setCell ⟨w.heap.size, 1, none⟩ (.int .i64 t.i)) := (hB2.setCell (Nat.le_refl _) _).setCell (Nat.le_refl _) _
  have hA7 : Arr ((w2.setCell ⟨w.heap.size, 0, none⟩ (.int .i64 t.d)).setCell ⟨w.heap.size, 1, none⟩ (.int .i64 t.i)) (DtR _) xs v2 F2 := ArrDt.mono ha2 (fun c hc => (Below.heap_setCell _ _ _ _ (hns c hc)).trans (Below.heap_setCell _ _ _ _ (hns c hc)))
  have hU7 : Fresh w ((w2.setCell ⟨w.heap.size, 0, none⟩ (.int .i64 t.d)).setCell ⟨w.heap.size, 1, none⟩ (.int .i64 t.i)) F2 := by
    have : ((w2.setCell ⟨w.heap.size, 0, none⟩ (.int .i64 t.d)).setCell ⟨w.heap.size, 1, none⟩ (.int .i64 t.i)).heap.size = w2.heap.size := by simp [World.setCell]
    exact fun b hb => ⟨by have := (hu2 b hb).1; omega, by rw [this]; exact (hu2 b hb).2⟩
  have HFin : Hid (DrewWT w (.returned (.tuple #[v2, .agg #[.int .i64 t.d, .int .i64 t.i]])) ((w2.setCell ⟨w.heap.size, 0, none⟩ (.int .i64 t.d)).setCell ⟨w.heap.size, 1, none⟩ (.int .i64 t.i))) := ⟨xs, v2, F2, t, rfl, hB7, hA7, hU7⟩
  clear hA7 hU7 hB7 ha2 hu2 hns KH2 hb2 KH1 HX1 HU1 HX0 HU0
  go_wp2
  refine bodyPost_ret (results_tmp_cell_row rfl _ _ w.heap.size 32 #[.int .i64 t.d, .int .i64 t.i] (0, 0) _ rfl HK7.out Try.underlying32 rfl rfl) rfl ?_
  exact HFin.out
end Go.Proofs.Ytilndhmegaccmaa

namespace Go.Proofs.Ytilndhmegaccmaa
open Go.RowKit

structure V where
  c : Int
  n : Int
  ks : List V

theorem V.ind {p : V → Prop} (h : ∀ c n ks, (∀ k ∈ ks, p k) → p ⟨c, n, ks⟩) : ∀ v, p v
  | ⟨c, n, ks⟩ => h c n ks fun k hk => V.ind h k
termination_by v => SizeOf.sizeOf v
decreasing_by
  have := List.sizeOf_lt_of_mem hk
  simp
  omega

mutual
def V.size : V → Nat
  | ⟨_, _, ks⟩ => V.sizes ks
def V.sizes : List V → Nat
  | [] => 0
  | k :: ks => 1 + V.size k + V.sizes ks
end

def V.subs : List V → Nat
  | [] => 0
  | k :: ks => k.size + V.subs ks
theorem V.subs_snoc (l : List V) (x : V) : V.subs (l ++ [x]) = V.subs l + x.size := by
  induction l with
  | nil => simp [V.subs]
  | cons k l ih => simp only [List.cons_append, V.subs, ih]; omega
theorem V.sizes_eq (l : List V) : V.sizes l = l.length + V.subs l := by
  induction l with
  | nil => rfl
  | cons k l ih => simp only [V.sizes, V.subs, List.length_cons, ih]; omega
theorem V.subs_take_le (l : List V) (k : Nat) : V.subs (l.take k) ≤ V.subs l := by
  induction l generalizing k with
  | nil => simp [V.subs]
  | cons x l ih =>
    cases k with
    | zero => simp [V.subs]
    | succ k => simp only [List.take_succ_cons, V.subs]; have := ih k; omega
theorem V.subs_take_succ (l : List V) (k : Nat) (h : k < l.length) : V.subs (l.take (k + 1)) = V.subs (l.take k) + l[k].size := by
  rw [take_snoc' l k h, V.subs_snoc]
theorem V.size_lt (l : List V) (k : Nat) (h : k < l.length) : l[k].size + l.length ≤ V.sizes l := by
  have h2 := V.subs_take_le l (k + 1)
  rw [V.subs_take_succ l k h] at h2
  rw [V.sizes_eq]
  omega

mutual
def VR (w : World) : V → List Value → List Nat → Prop
  | ⟨c, n, ks⟩, cs, F => ∃ A cap, cs = [.int .i64 c, .int .i64 n, .slice A ks.length cap] ∧ ks.length ≤ cap ∧ cap ≤ maxLen ∧ ((ks = [] ∧ F = []) ∨ ∃ b off ds G, A = some ⟨b, off, none⟩ ∧ CellsAt w b off ds ∧ VRs w ks ds G ∧ F = b :: G)
def VRs (w : World) : List V → List Value → List Nat → Prop
  | [], cs, F => cs = [] ∧ F = []
  | x :: xs, cs, F => ∃ c1 c2 F1 F2, cs = c1 ++ c2 ∧ F = F1 ++ F2 ∧ VR w x c1 F1 ∧ VRs w xs c2 F2
end

theorem VRs_eq (w : World) (ks : List V) : ∀ cs F, VRs w ks cs F ↔ Flat (VR w) ks cs F := by
  induction ks with
  | nil => intro cs F; simp [VRs, Flat]
  | cons k ks ih =>
    intro cs F
    simp only [VRs, Flat, ih]

theorem VR_iff {w : World} (v : V) (cs : List Value) (F : List Nat) : VR w v cs F ↔ ∃ kv, cs = [.int .i64 v.c, .int .i64 v.n, kv] ∧ Arr w (VR w) v.ks kv F := by
  obtain ⟨c, n, ks⟩ := v
  simp only [VR, Arr, VRs_eq]
  constructor
  · rintro ⟨A, cap, rfl, h1, h2, h3⟩
    exact ⟨_, rfl, A, cap, rfl, h1, h2, h3⟩
  · rintro ⟨kv, rfl, A, cap, rfl, h1, h2, h3⟩
    exact ⟨A, cap, rfl, h1, h2, h3⟩

theorem VR_len {w : World} (v : V) (cs : List Value) (F : List Nat) (h : VR w v cs F) : cs.length = 3 := by
  obtain ⟨kv, rfl, -⟩ := (VR_iff _ _ _).1 h
  rfl

theorem VR.mono {w w' : World} : ∀ v cs F, Kept F w w' → VR w v cs F → VR w' v cs F := by
  refine V.ind fun c n ks ih cs F hF h => ?_
  rw [VR_iff] at h ⊢
  obtain ⟨kv, rfl, h⟩ := h
  exact ⟨kv, rfl, h.mono hF ih⟩

theorem VR.below {w w' : World} {B : Nat} {v : V} {cs : List Value} {F : List Nat} (h : VR w v cs F) (hb : Below B w w') (hF : Under B F) : VR w' v cs F := VR.mono v cs F (.of_below hb hF) h

theorem VR.drew {w : World} {v : V} {cs : List Value} {F : List Nat} (h : VR w v cs F) : VR w.drew v cs F := VR.mono (w := w) v cs F (fun _ _ => rfl) h
theorem VR.drewN {w : World} {v : V} {cs : List Value} {F : List Nat} (h : VR w v cs F) (n : Nat) : VR (w.drewN n) v cs F := VR.mono (w := w) v cs F (fun _ _ => rfl) h

theorem ArrV.mono {w w' : World} {vs : List V} {x : Value} {F : List Nat} (h : Arr w (VR w) vs x F) (hF : Kept F w w') : Arr w' (VR w') vs x F := h.mono hF fun v _ => VR.mono v
theorem ArrV.below {w w' : World} {B : Nat} {vs : List V} {x : Value} {F : List Nat} (h : Arr w (VR w) vs x F) (hb : Below B w w') (hF : Under B F) : Arr w' (VR w') vs x F := ArrV.mono h (.of_below hb hF)

end Go.Proofs.Ytilndhmegaccmaa

namespace Go.Proofs.Ytilndhmegaccmaa
open Go.RowKit

/-- the index of what a constructor makes for a type with index i -/
def resIdx (c : Kt) (i : Int) : Int := if (c.idx == 0) = true then i else c.idx
def argTy (r : Int) (a : Ty) : Ty := if (a.i == -1) = true then ⟨a.d, r⟩ else a
def argsL (c : Kt) (i : Int) : List Ty := c.args.map (argTy (resIdx c i))
theorem argTy_yes {r : Int} {a : Ty} (h : (a.i == -1) = true) : argTy r a = ⟨a.d, r⟩ := if_pos h
theorem argTy_no {r : Int} {a : Ty} (h : (a.i == -1) = false) : argTy r a = a := if_neg (by simp [h])
def argsTo (r : Int) (l : List Ty) (j : Nat) : List Ty := (l.take j).map (argTy r)
theorem argsTo_len (r : Int) (l : List Ty) (j : Nat) : (argsTo r l j).length ≤ j := by unfold argsTo; rw [List.length_map, List.length_take]; omega
theorem argsTo_all (r : Int) (l : List Ty) {j : Nat} (h : l.length ≤ j) : argsTo r l j = l.map (argTy r) := by unfold argsTo; rw [List.take_of_length_le h]
theorem argsTo_succ (r : Int) (l : List Ty) (j : Nat) (h : j < l.length) : argsTo r l (j + 1) = argsTo r l j ++ [argTy r l[j]] := by unfold argsTo; rw [take_snoc' l j h, List.map_append]; rfl
theorem argsL_len (c : Kt) (i : Int) : (argsL c i).length = c.args.length := List.length_map _
theorem map_take_succ {α β : Type} (f : α → β) (l : List α) (j : Nat) (h : j < l.length) : (l.take (j + 1)).map f = (l.take j).map f ++ [f l[j]] := by rw [take_snoc' l j h, List.map_append]; rfl
set_option maxRecDepth 100000 in
set_option maxHeartbeats 1600000 in
theorem impl_argTypes (xs : List Dt) (d k : Nat) (i : Int) (hd : d < xs.length) (hk : k < xs[d].ctors.length) (w : World) (v : Value) (F : List Nat) (hx : Arr w (DtR w) xs v F) (hf : Under w.heap.size F) (hal : xs[d].ctors[k].args.length ≤ 3) :
    Calls Try.prog 113 #[v, .agg #[.int .i64 (d : Int), .int .i64 i], .int .i64 (k : Int)] w (GivesTys w (argsL xs[d].ctors[k] i)) := by
  obtain ⟨A, cap, rfl, hc1, hc2⟩ := hx.form
  obtain ⟨b, off, rfl⟩ := hx.ptr (by omega)
  have HX := Lib.hid hx
  have HF := Lib.hid hf
  clear hx hf
  obtain ⟨i0, hi, hz0, hz1, hz2⟩ := info_parts info_tyE
  have HI := Lib.hid hi
  have HZ0 := Lib.hid hz0
  have HZ1 := Lib.hid hz1
  have HZ2 := Lib.hid hz2
  clear hi hz0 hz1 hz2
  have hB1 : Below w.heap.size w (w.alloc (.cells #[.int .i64 (d : Int), .int .i64 i] 32)) := (Below.refl _ _).alloc (Nat.le_refl _) _
  obtain ⟨A1, cap1, G1, hb, c0, c1, HK, HG, -, hn1, hn2⟩ := ArrDt.at HX.out HF.out hB1 d hd
  clear c0
  obtain ⟨b2, off2, rfl⟩ := HK.out.ptr (by omega)
  obtain ⟨A3, cap3, G3, hb3, k0, k1, k2, HC, HG3, -, hn3, hn4⟩ := ArrKt.at HK.out HG.out hB1 k hk
  have g1 : (0 : Int) ≤ (d : Int) := by omega
  have g2 : (d : Int) < (xs.length : Int) := by omega
  have g3 : (0 : Int) ≤ (k : Int) := by omega
  have g4 : (k : Int) < (xs[d].ctors.length : Int) := by omega
  have hB2 : Below w.heap.size w ((w.alloc (.cells #[.int .i64 (d : Int), .int .i64 i] 32)).alloc (.cells #[.string xs[d].ctors[k].name, .slice A3 xs[d].ctors[k].args.length cap3, .int .i64 xs[d].ctors[k].idx] 138)) := hB1.alloc (by simp) _
  clear hB1
  cases q : (xs[d].ctors[k].idx == 0) with
  | true =>
    have HRI : Hid (resIdx xs[d].ctors[k] i = i) := if_pos q
    go_enter Try.func113, Try.ntmps113
    go_wp2
    clear q c1 k0 k1 k2 hb hb3
    go_loopw [9, 30] (fun ov jv wr => ∃ j : Nat, j ≤ xs[d].ctors[k].args.length ∧ jv = .int .i64 j ∧ Hid (Own wr (w.heap.size + 2) 32 2 TyR (argsTo (i) xs[d].ctors[k].args j) ov []) ∧ Below w.heap.size w wr ∧ w.heap.size + 2 ≤ wr.heap.size) (fun _ jv _ => xs[d].ctors[k].args.length - (intOf jv).toNat)
    case atStart => exact ⟨0, Nat.zero_le _, rfl, (show Own _ _ _ _ _ [] _ _ from Own.nil _ _ _ _ _), hB2, by simp⟩
    case round =>
      clear hB2
      obtain ⟨j, hj, rfl, HO, hB, hsz⟩ := hrel
      by_cases hjl : j < xs[d].ctors[k].args.length
      · obtain ⟨b3, off3, rfl⟩ := HC.out.ptr (by omega)
        obtain ⟨hb4, a0, a1⟩ := ArrTy.at HC.out HG3.out hB j hjl
        have g5 : (0 : Int) ≤ (j : Int) := by omega
        have g6 : (j : Int) < (xs[d].ctors[k].args.length : Int) := by omega
        cases q2 : (xs[d].ctors[k].args[j].i == -1) with
        | true =>
          have HF2 := Lib.hid ((argsTo_succ (i) xs[d].ctors[k].args j hjl).trans (by rw [argTy_yes q2]))
          have hb1 : Below wr.heap.size wr (wr.alloc (.cells #[.int .i64 xs[d].ctors[k].args[j].d, .int .i64 (i)] 32)) := (Below.refl _ _).alloc (Nat.le_refl _) _
          have hB1 := hB.trans (hb1.mono hB.size)
          have HO1 := Lib.hid (HO.out.below (fun x cs G hk h => TyR_mono' _ _ x cs G hk h) hb1)
          have hbs : w.heap.size + 2 ≤ (wr.alloc (.cells #[.int .i64 xs[d].ctors[k].args[j].d, .int .i64 (i)] 32)).heap.size := Nat.le_trans hsz hb1.size
          go_wp2_with (at_builtin; refine Halt.mk ?_)
          refine Halt.of (wpList_push1 (P := Try.prog) rfl _ _ 136 rfl i0 _ 16 Try.underlying136 HI.out HZ0.out HZ1.out HZ2.out rfl (by decide) TyR_len' TyR_mono' (by rfl) HO1.out ⟨xs[d].ctors[k].args[j].d, i⟩ 32 [.int .i64 (xs[d].ctors[k].args[j].d), .int .i64 (i)] [] _ (by rfl) (by simp) (by simp [Value.oneCell']) ⟨rfl, rfl⟩ (Under.nil _) (fun _ _ h => by cases h) (by have := argsTo_len (i) xs[d].ctors[k].args j; unfold maxLen; omega) (by have := argsTo_len (i) xs[d].ctors[k].args j; omega) hbs ?_)
          intro g cp w3 hown3 hgr3 hat3
          have hrow := HO1.out.row
          have hB3 : Below w.heap.size w w3 := (hB1.alloc hB1.size _).grown hgr3 (by have := hB1.size; simp; omega) (fun g hg => by have := hrow g (mem_rowOf.2 hg); omega)
          have HO3 := Lib.hid hown3
          have hsz3 : w.heap.size + 2 ≤ w3.heap.size := by have := hgr3.size; simp at this; omega
          clear hown3 hgr3 hat3 hrow
          go_wp2
          go_roundw
          case rel => exact ⟨j + 1, by omega, by go_num, (by rw [HF2.out]; exact HO3.out), hB3, hsz3⟩
          case measure => (simp [intOf] <;> omega)
        | false =>
          have HF2 := Lib.hid ((argsTo_succ (i) xs[d].ctors[k].args j hjl).trans (by rw [argTy_no q2]))
          have hb1 : Below wr.heap.size wr (wr.alloc (.cells #[.int .i64 xs[d].ctors[k].args[j].d, .int .i64 xs[d].ctors[k].args[j].i] 32)) := (Below.refl _ _).alloc (Nat.le_refl _) _
          have hB1 := hB.trans (hb1.mono hB.size)
          have HO1 := Lib.hid (HO.out.below (fun x cs G hk h => TyR_mono' _ _ x cs G hk h) hb1)
          have hbs : w.heap.size + 2 ≤ (wr.alloc (.cells #[.int .i64 xs[d].ctors[k].args[j].d, .int .i64 xs[d].ctors[k].args[j].i] 32)).heap.size := Nat.le_trans hsz hb1.size
          go_wp2_with (at_builtin; refine Halt.mk ?_)
          refine Halt.of (wpList_push1 (P := Try.prog) rfl _ _ 136 rfl i0 _ 16 Try.underlying136 HI.out HZ0.out HZ1.out HZ2.out rfl (by decide) TyR_len' TyR_mono' (by rfl) HO1.out ⟨xs[d].ctors[k].args[j].d, xs[d].ctors[k].args[j].i⟩ 32 [.int .i64 (xs[d].ctors[k].args[j].d), .int .i64 (xs[d].ctors[k].args[j].i)] [] _ (by rfl) (by simp) (by simp [Value.oneCell']) ⟨rfl, rfl⟩ (Under.nil _) (fun _ _ h => by cases h) (by have := argsTo_len (i) xs[d].ctors[k].args j; unfold maxLen; omega) (by have := argsTo_len (i) xs[d].ctors[k].args j; omega) hbs ?_)
          intro g cp w3 hown3 hgr3 hat3
          have hrow := HO1.out.row
          have hB3 : Below w.heap.size w w3 := (hB1.alloc hB1.size _).grown hgr3 (by have := hB1.size; simp; omega) (fun g hg => by have := hrow g (mem_rowOf.2 hg); omega)
          have HO3 := Lib.hid hown3
          have hsz3 : w.heap.size + 2 ≤ w3.heap.size := by have := hgr3.size; simp at this; omega
          clear hown3 hgr3 hat3 hrow
          go_wp2
          go_roundw
          case rel => exact ⟨j + 1, by omega, by go_num, (by rw [HF2.out]; exact HO3.out), hB3, hsz3⟩
          case measure => (simp [intOf] <;> omega)
      · have hfin : GivesTys w (argsL xs[d].ctors[k] i) (.returned u9) wr := by
          unfold argsL
          rw [HRI.out]
          have h := HO.out
          rw [argsTo_all _ _ (by omega)] at h
          exact h.tys hB (by omega)
        have HFin := Lib.hid hfin
        clear hfin
        go_wp2
        go_ret
        exact HFin.out
  | false =>
    have HRI : Hid (resIdx xs[d].ctors[k] i = xs[d].ctors[k].idx) := if_neg (by simp [q])
    go_enter Try.func113, Try.ntmps113
    go_wp2
    clear q c1 k0 k1 k2 hb hb3
    go_loopw [9, 30] (fun ov jv wr => ∃ j : Nat, j ≤ xs[d].ctors[k].args.length ∧ jv = .int .i64 j ∧ Hid (Own wr (w.heap.size + 2) 32 2 TyR (argsTo (xs[d].ctors[k].idx) xs[d].ctors[k].args j) ov []) ∧ Below w.heap.size w wr ∧ w.heap.size + 2 ≤ wr.heap.size) (fun _ jv _ => xs[d].ctors[k].args.length - (intOf jv).toNat)
    case atStart => exact ⟨0, Nat.zero_le _, rfl, (show Own _ _ _ _ _ [] _ _ from Own.nil _ _ _ _ _), hB2, by simp⟩
    case round =>
      clear hB2
      obtain ⟨j, hj, rfl, HO, hB, hsz⟩ := hrel
      by_cases hjl : j < xs[d].ctors[k].args.length
      · obtain ⟨b3, off3, rfl⟩ := HC.out.ptr (by omega)
        obtain ⟨hb4, a0, a1⟩ := ArrTy.at HC.out HG3.out hB j hjl
        have g5 : (0 : Int) ≤ (j : Int) := by omega
        have g6 : (j : Int) < (xs[d].ctors[k].args.length : Int) := by omega
        cases q2 : (xs[d].ctors[k].args[j].i == -1) with
        | true =>
          have HF2 := Lib.hid ((argsTo_succ (xs[d].ctors[k].idx) xs[d].ctors[k].args j hjl).trans (by rw [argTy_yes q2]))
          have hb1 : Below wr.heap.size wr (wr.alloc (.cells #[.int .i64 xs[d].ctors[k].args[j].d, .int .i64 (xs[d].ctors[k].idx)] 32)) := (Below.refl _ _).alloc (Nat.le_refl _) _
          have hB1 := hB.trans (hb1.mono hB.size)
          have HO1 := Lib.hid (HO.out.below (fun x cs G hk h => TyR_mono' _ _ x cs G hk h) hb1)
          have hbs : w.heap.size + 2 ≤ (wr.alloc (.cells #[.int .i64 xs[d].ctors[k].args[j].d, .int .i64 (xs[d].ctors[k].idx)] 32)).heap.size := Nat.le_trans hsz hb1.size
          go_wp2_with (at_builtin; refine Halt.mk ?_)
          refine Halt.of (wpList_push1 (P := Try.prog) rfl _ _ 136 rfl i0 _ 16 Try.underlying136 HI.out HZ0.out HZ1.out HZ2.out rfl (by decide) TyR_len' TyR_mono' (by rfl) HO1.out ⟨xs[d].ctors[k].args[j].d, xs[d].ctors[k].idx⟩ 32 [.int .i64 (xs[d].ctors[k].args[j].d), .int .i64 (xs[d].ctors[k].idx)] [] _ (by rfl) (by simp) (by simp [Value.oneCell']) ⟨rfl, rfl⟩ (Under.nil _) (fun _ _ h => by cases h) (by have := argsTo_len (xs[d].ctors[k].idx) xs[d].ctors[k].args j; unfold maxLen; omega) (by have := argsTo_len (xs[d].ctors[k].idx) xs[d].ctors[k].args j; omega) hbs ?_)
          intro g cp w3 hown3 hgr3 hat3
          have hrow := HO1.out.row
          have hB3 : Below w.heap.size w w3 := (hB1.alloc hB1.size _).grown hgr3 (by have := hB1.size; simp; omega) (fun g hg => by have := hrow g (mem_rowOf.2 hg); omega)
          have HO3 := Lib.hid hown3
          have hsz3 : w.heap.size + 2 ≤ w3.heap.size := by have := hgr3.size; simp at this; omega
          clear hown3 hgr3 hat3 hrow
          go_wp2
          go_roundw
          case rel => exact ⟨j + 1, by omega, by go_num, (by rw [HF2.out]; exact HO3.out), hB3, hsz3⟩
          case measure => (simp [intOf] <;> omega)
        | false =>
          have HF2 := Lib.hid ((argsTo_succ (xs[d].ctors[k].idx) xs[d].ctors[k].args j hjl).trans (by rw [argTy_no q2]))
          have hb1 : Below wr.heap.size wr (wr.alloc (.cells #[.int .i64 xs[d].ctors[k].args[j].d, .int .i64 xs[d].ctors[k].args[j].i] 32)) := (Below.refl _ _).alloc (Nat.le_refl _) _
          have hB1 := hB.trans (hb1.mono hB.size)
          have HO1 := Lib.hid (HO.out.below (fun x cs G hk h => TyR_mono' _ _ x cs G hk h) hb1)
          have hbs : w.heap.size + 2 ≤ (wr.alloc (.cells #[.int .i64 xs[d].ctors[k].args[j].d, .int .i64 xs[d].ctors[k].args[j].i] 32)).heap.size := Nat.le_trans hsz hb1.size
          go_wp2_with (at_builtin; refine Halt.mk ?_)
          refine Halt.of (wpList_push1 (P := Try.prog) rfl _ _ 136 rfl i0 _ 16 Try.underlying136 HI.out HZ0.out HZ1.out HZ2.out rfl (by decide) TyR_len' TyR_mono' (by rfl) HO1.out ⟨xs[d].ctors[k].args[j].d, xs[d].ctors[k].args[j].i⟩ 32 [.int .i64 (xs[d].ctors[k].args[j].d), .int .i64 (xs[d].ctors[k].args[j].i)] [] _ (by rfl) (by simp) (by simp [Value.oneCell']) ⟨rfl, rfl⟩ (Under.nil _) (fun _ _ h => by cases h) (by have := argsTo_len (xs[d].ctors[k].idx) xs[d].ctors[k].args j; unfold maxLen; omega) (by have := argsTo_len (xs[d].ctors[k].idx) xs[d].ctors[k].args j; omega) hbs ?_)
          intro g cp w3 hown3 hgr3 hat3
          have hrow := HO1.out.row
          have hB3 : Below w.heap.size w w3 := (hB1.alloc hB1.size _).grown hgr3 (by have := hB1.size; simp; omega) (fun g hg => by have := hrow g (mem_rowOf.2 hg); omega)
          have HO3 := Lib.hid hown3
          have hsz3 : w.heap.size + 2 ≤ w3.heap.size := by have := hgr3.size; simp at this; omega
          clear hown3 hgr3 hat3 hrow
          go_wp2
          go_roundw
          case rel => exact ⟨j + 1, by omega, by go_num, (by rw [HF2.out]; exact HO3.out), hB3, hsz3⟩
          case measure => (simp [intOf] <;> omega)
      · have hfin : GivesTys w (argsL xs[d].ctors[k] i) (.returned u9) wr := by
          unfold argsL
          rw [HRI.out]
          have h := HO.out
          rw [argsTo_all _ _ (by omega)] at h
          exact h.tys hB (by omega)
        have HFin := Lib.hid hfin
        clear hfin
        go_wp2
        go_ret
        exact HFin.out
end Go.Proofs.Ytilndhmegaccmaa

namespace Go.Proofs.Ytilndhmegaccmaa
open Go.RowKit

set_option maxRecDepth 100000 in
set_option maxHeartbeats 1600000 in
theorem spec_l1Result (c : Kt) (i : Int) (A : Option Addr) (n cap : Nat) (w : World) : Calls Try.prog 146 #[.agg #[.string c.name, .slice A n cap, .int .i64 c.idx], .int .i64 i] w fun e w' => e = .returned (.int .i64 (resIdx c i)) ∧ Below w.heap.size w w' := by
  cases q : (c.idx == 0) with
  | true =>
    have hf : Hid (resIdx c i = i) := if_pos q
    go_enter Try.func146, Try.ntmps146
    go_wp2
    go_ret
    exact ⟨ret_int hf.out.symm, (Below.refl _ _).alloc (Nat.le_refl _) _⟩
  | false =>
    have hf : Hid (resIdx c i = c.idx) := if_neg (by simp [q])
    go_enter Try.func146, Try.ntmps146
    go_wp2
    go_ret
    exact ⟨ret_int hf.out.symm, (Below.refl _ _).alloc (Nat.le_refl _) _⟩
set_option maxRecDepth 100000 in
set_option maxHeartbeats 1600000 in
theorem spec_l1Args (xs : List Dt) (d k : Nat) (i : Int) (hd : d < xs.length) (hk : k < xs[d].ctors.length) (w : World) (v : Value) (F : List Nat) (hx : Arr w (DtR w) xs v F) (hf : Under w.heap.size F) (hal : xs[d].ctors[k].args.length ≤ 3) :
    Calls Try.prog 109 #[v, .agg #[.int .i64 (d : Int), .int .i64 i], .int .i64 (k : Int)] w (GivesTys w (argsL xs[d].ctors[k] i)) := by
  obtain ⟨A, cap, rfl, hc1, hc2⟩ := hx.form
  obtain ⟨b, off, rfl⟩ := hx.ptr (by omega)
  have HX := Lib.hid hx
  have HF := Lib.hid hf
  clear hx hf
  obtain ⟨i0, hi, hz0, hz1, hz2⟩ := info_parts info_tyE
  have HI := Lib.hid hi
  have HZ0 := Lib.hid hz0
  have HZ1 := Lib.hid hz1
  have HZ2 := Lib.hid hz2
  clear hi hz0 hz1 hz2
  have hB0 : Below w.heap.size w ((w.alloc (.cells #[.int .i64 (d : Int), .int .i64 i] 32)).alloc (.cells #[] 32)) := ((Below.refl _ _).alloc (Nat.le_refl _) _).alloc (by simp) _
  obtain ⟨A1, cap1, G1, hb, c0, c1, HK, HG, -, hn1, hn2⟩ := ArrDt.at HX.out HF.out hB0 d hd
  clear c0
  obtain ⟨b2, off2, rfl⟩ := HK.out.ptr (by omega)
  obtain ⟨A3, cap3, G3, hb3, k0, k1, k2, HC, HG3, -, hn3, hn4⟩ := ArrKt.at HK.out HG.out hB0 k hk
  have g1 : (0 : Int) ≤ (d : Int) := by omega
  have g2 : (d : Int) < (xs.length : Int) := by omega
  have g3 : (0 : Int) ≤ (k : Int) := by omega
  have g4 : (k : Int) < (xs[d].ctors.length : Int) := by omega
  have HL := Lib.hid hal
  go_enter Try.func109, Try.ntmps109
  go_wp2
  clear c1 k0 k1 k2 hb hb3
  have hB2 : Below w.heap.size w (((w.alloc (.cells #[.int .i64 (d : Int), .int .i64 i] 32)).alloc (.cells #[] 32)).alloc (.cells #[.string xs[d].ctors[k].name, .slice A3 xs[d].ctors[k].args.length cap3, .int .i64 xs[d].ctors[k].idx] 138)) := hB0.alloc (by simp; omega) _
  have KT0 : Hid (Blk (((w.alloc (.cells #[.int .i64 (d : Int), .int .i64 i] 32)).alloc (.cells #[] 32)).alloc (.cells #[.string xs[d].ctors[k].name, .slice A3 xs[d].ctors[k].args.length cap3, .int .i64 xs[d].ctors[k].idx] 138)) w.heap.size 32 #[.int .i64 (d : Int), .int .i64 i]) := ((Blk.new _ _ _).same (Below.heap_alloc _ _ _ (by simp))).same (Below.heap_alloc _ _ _ (by simp; omega))
  have KC0 : Hid (Blk (((w.alloc (.cells #[.int .i64 (d : Int), .int .i64 i] 32)).alloc (.cells #[] 32)).alloc (.cells #[.string xs[d].ctors[k].name, .slice A3 xs[d].ctors[k].args.length cap3, .int .i64 xs[d].ctors[k].idx] 138)) (w.heap.size + 2) 138 #[.string xs[d].ctors[k].name, .slice A3 xs[d].ctors[k].args.length cap3, .int .i64 xs[d].ctors[k].idx]) := by
    have h := Blk.new ((w.alloc (.cells #[.int .i64 (d : Int), .int .i64 i] 32)).alloc (.cells #[] 32)) 138 #[.string xs[d].ctors[k].name, .slice A3 xs[d].ctors[k].args.length cap3, .int .i64 xs[d].ctors[k].idx]
    rw [show ((w.alloc (.cells #[.int .i64 (d : Int), .int .i64 i] 32)).alloc (.cells #[] 32)).heap.size = w.heap.size + 2 from by simp] at h
    exact h
  have HO0 : Hid (Own (((w.alloc (.cells #[.int .i64 (d : Int), .int .i64 i] 32)).alloc (.cells #[] 32)).alloc (.cells #[.string xs[d].ctors[k].name, .slice A3 xs[d].ctors[k].args.length cap3, .int .i64 xs[d].ctors[k].idx] 138)) (w.heap.size + 1) 32 2 TyR ([] : List Ty) (.slice (some ⟨w.heap.size + 1, 0, none⟩) 0 0) []) := by
    have h := Own.made (w.alloc (.cells #[.int .i64 (d : Int), .int .i64 i] 32)) (w.heap.size + 1) 32 2 TyR #[] 0 (by simp) (by simp [maxLen]) rfl
    rw [World.size_alloc] at h
    exact h.below (fun x cs G hk h => TyR_mono' _ _ x cs G hk h) ((Below.refl _ _).alloc (Nat.le_refl _) _)
  go_loopw [7, 9] (fun ov jv wr => ∃ j : Nat, j ≤ xs[d].ctors[k].args.length ∧ jv = .int .i64 j ∧ Hid (Own wr (w.heap.size + 1) 32 2 TyR (argsTo (resIdx xs[d].ctors[k] i) xs[d].ctors[k].args j) ov []) ∧ Below w.heap.size w wr ∧ Hid (Blk wr w.heap.size 32 #[.int .i64 (d : Int), .int .i64 i]) ∧ Hid (Blk wr (w.heap.size + 2) 138 #[.string xs[d].ctors[k].name, .slice A3 xs[d].ctors[k].args.length cap3, .int .i64 xs[d].ctors[k].idx]) ∧ Hid (∀ g' ∈ rowOf ov, g' = w.heap.size + 1 ∨ w.heap.size + 3 ≤ g')) (fun _ jv _ => xs[d].ctors[k].args.length - (intOf jv).toNat)
  case atStart => exact ⟨0, Nat.zero_le _, rfl, HO0, hB2, KT0, KC0, fun g' hg' => by rw [rowOf_some, List.mem_singleton] at hg'; exact .inl hg'⟩
  case round =>
    clear hB2 hB0 KT0 KC0 HO0
    obtain ⟨j, hj, rfl, HO, hB, KT, KC, HN⟩ := hrel
    have y1 : wr.cell? ⟨w.heap.size, 1, none⟩ = some (.int .i64 i) := (KT.out.cell 1).trans (by simp)
    have q0 : wr.cell? ⟨w.heap.size + 2, 0, none⟩ = some (.string xs[d].ctors[k].name) := (KC.out.cell 0).trans (by simp)
    have q1 : wr.cell? ⟨w.heap.size + 2, 1, none⟩ = some (.slice A3 xs[d].ctors[k].args.length cap3) := (KC.out.cell 1).trans (by simp)
    have q2 : wr.cell? ⟨w.heap.size + 2, 2, none⟩ = some (.int .i64 xs[d].ctors[k].idx) := (KC.out.cell 2).trans (by simp)
    have hsz := KC.out.lt
    have hsz0 := KT.out.lt
    by_cases hjl : j < xs[d].ctors[k].args.length
    · obtain ⟨b3, off3, rfl⟩ := HC.out.ptr (by omega)
      obtain ⟨hb4, a0, a1⟩ := ArrTy.at HC.out HG3.out hB j hjl
      have g5 : (0 : Int) ≤ (j : Int) := by omega
      have g6 : (j : Int) < (xs[d].ctors[k].args.length : Int) := by omega
      have hbx : Below wr.heap.size wr (wr.alloc (.cells #[.int .i64 xs[d].ctors[k].args[j].d, .int .i64 xs[d].ctors[k].args[j].i] 32)) := (Below.refl _ _).alloc (Nat.le_refl _) _
      have hBx := hB.trans (hbx.mono hB.size)
      have HOx := Lib.hid (HO.out.below (fun x cs G hk h => TyR_mono' _ _ x cs G hk h) hbx)
      have KTx := Lib.hid (KT.out.same (hbx.block _ KT.out.lt))
      have KCx := Lib.hid (KC.out.same (hbx.block _ KC.out.lt))
      cases q3 : (xs[d].ctors[k].args[j].i == -1) with
      | true =>
        have HF2 := Lib.hid ((argsTo_succ (resIdx xs[d].ctors[k] i) xs[d].ctors[k].args j hjl).trans (by rw [argTy_yes q3]))
        have KX := Lib.hid (Blk.new wr 32 #[.int .i64 xs[d].ctors[k].args[j].d, .int .i64 xs[d].ctors[k].args[j].i])
        go_wp2_with fail
        obtain ⟨W4, hW4⟩ : ∃ W4, W4 = wr.alloc (.cells #[.int .i64 xs[d].ctors[k].args[j].d, .int .i64 xs[d].ctors[k].args[j].i] 32) := ⟨_, rfl⟩
        rw [← hW4] at hbx hBx HOx KTx KCx KX ⊢
        clear hW4
        refine (spec_l1Result xs[d].ctors[k] i _ _ _ W4).mono ?_
        rintro e w4 ⟨rfl, hb4'⟩
        have hB4 := hBx.trans (hb4'.mono hBx.size)
        have HO4 := Lib.hid (HOx.out.below (fun x cs G hk h => TyR_mono' _ _ x cs G hk h) hb4')
        have KT4 := Lib.hid (KTx.out.same (hb4'.block _ KTx.out.lt))
        have KC4 := Lib.hid (KCx.out.same (hb4'.block _ KCx.out.lt))
        have k4 := KX.out.same (hb4'.block _ KX.out.lt)
        have z0 : w4.cell? ⟨wr.heap.size, 0, none⟩ = some (.int .i64 xs[d].ctors[k].args[j].d) := (k4.cell 0).trans (by simp)
        have z1 : w4.cell? ⟨wr.heap.size, 1, none⟩ = some (.int .i64 xs[d].ctors[k].args[j].i) := (k4.cell 1).trans (by simp)
        have zf := k4.frozen 1
        have hz4 := k4.lt
        have hrw := HO4.out.row
        have hrow0 := HO.out.row
        have hB1 : Below w.heap.size w (w4.setCell ⟨wr.heap.size, 1, none⟩ (.int .i64 (resIdx xs[d].ctors[k] i))) := hB4.setCell (by show w.heap.size ≤ wr.heap.size; omega) _
        have HO1 := Lib.hid (Own.set (j := 1) (b := wr.heap.size) TyR_mono' HO4.out (.int .i64 (resIdx xs[d].ctors[k] i)) (fun h => by have := (hrow0 _ h).2; omega) (fun h => by cases h))
        have KT1 : Hid (Blk (w4.setCell ⟨wr.heap.size, 1, none⟩ (.int .i64 (resIdx xs[d].ctors[k] i))) w.heap.size 32 #[.int .i64 (d : Int), .int .i64 i]) := KT4.out.same (Below.heap_setCell _ _ _ _ (by show w.heap.size ≠ wr.heap.size; omega))
        have KC1 : Hid (Blk (w4.setCell ⟨wr.heap.size, 1, none⟩ (.int .i64 (resIdx xs[d].ctors[k] i))) (w.heap.size + 2) 138 #[.string xs[d].ctors[k].name, .slice (some ⟨b3, off3, none⟩) xs[d].ctors[k].args.length cap3, .int .i64 xs[d].ctors[k].idx]) := KC4.out.same (Below.heap_setCell _ _ _ _ (by show w.heap.size + 2 ≠ wr.heap.size; omega))
        have hbs : w.heap.size + 1 ≤ (w4.setCell ⟨wr.heap.size, 1, none⟩ (.int .i64 (resIdx xs[d].ctors[k] i))).heap.size := Nat.le_of_lt (Nat.lt_of_le_of_lt (Nat.le_add_right _ 1) KC1.out.lt)
        have hbs3 : w.heap.size + 3 ≤ (w4.setCell ⟨wr.heap.size, 1, none⟩ (.int .i64 (resIdx xs[d].ctors[k] i))).heap.size := KC1.out.lt
        have hrow2 := HN.out
        clear hbx hBx HOx KTx KCx KX k4 hrw hrow0 y1 q0 q1 q2 a0 a1
        generalize hrr : resIdx xs[d].ctors[k] i = rr at *
        have HRR := Lib.hid hrr
        clear hrr
        go_wp2_with (at_builtin; refine Halt.mk ?_)
        refine Halt.of (wpList_push1 (P := Try.prog) rfl _ _ 136 rfl i0 _ 16 Try.underlying136 HI.out HZ0.out HZ1.out HZ2.out rfl (by decide) TyR_len' TyR_mono' (by rfl) HO1.out ⟨xs[d].ctors[k].args[j].d, rr⟩ 32 [.int .i64 (xs[d].ctors[k].args[j].d), .int .i64 (rr)] [] _ (by rfl) (by simp) (by simp [Value.oneCell']) ⟨rfl, rfl⟩ (Under.nil _) (fun _ _ h => by cases h) (by have := argsTo_len (rr) xs[d].ctors[k].args j; unfold maxLen; omega) (by have := argsTo_len (rr) xs[d].ctors[k].args j; omega) hbs ?_)
        intro g cp w3 hown3 hgr3 hat3
        have hrow := HO1.out.row
        have hB3 : Below w.heap.size w w3 := (hB1.alloc hB1.size _).grown hgr3 (by have := hB1.size; simp; omega) (fun g hg => by have := hrow g (mem_rowOf.2 hg); omega)
        have HO3 := Lib.hid hown3
        have KT3 : Hid (Blk w3 w.heap.size 32 #[.int .i64 (d : Int), .int .i64 i]) := (KT1.out.same (Below.heap_alloc _ _ _ KT1.out.lt)).same (hgr3.block _ (by have := KT1.out.lt; simp; omega) (fun e => by have := hrow _ (mem_rowOf.2 e.symm); omega))
        have KC3 : Hid (Blk w3 (w.heap.size + 2) 138 #[.string xs[d].ctors[k].name, .slice (some ⟨b3, off3, none⟩) xs[d].ctors[k].args.length cap3, .int .i64 xs[d].ctors[k].idx]) := (KC1.out.same (Below.heap_alloc _ _ _ KC1.out.lt)).same (hgr3.block _ (by have := KC1.out.lt; simp; omega) (fun e => by have := hrow2 _ (mem_rowOf.2 e.symm); omega))
        have hne3 : ∀ g' ∈ rowOf (.slice (some ⟨g, 0, none⟩) ((argsTo (rr) xs[d].ctors[k].args j).length + 1) cp), g' = w.heap.size + 1 ∨ w.heap.size + 3 ≤ g' := fun g' hg' => by
          rw [rowOf_some, List.mem_singleton] at hg'
          subst hg'
          rcases hat3 with h | h
          · exact hrow2 _ (mem_rowOf.2 h)
          · right; have := hbs3; omega
        have HN3 := Lib.hid hne3
        clear hown3 hgr3 hat3 hrow hrow2 hne3
        go_wp2
        go_roundw
        case rel => exact ⟨j + 1, by omega, by go_num, (by rw [HRR.out, HF2.out]; exact HO3.out), hB3, KT3, KC3, HN3⟩
        case measure => (simp [intOf] <;> omega)
      | false =>
        have HF2 := Lib.hid ((argsTo_succ (resIdx xs[d].ctors[k] i) xs[d].ctors[k].args j hjl).trans (by rw [argTy_no q3]))
        have hB1 := hBx
        have HO1 := HOx
        have KT1 : Hid (Blk (wr.alloc (.cells #[.int .i64 xs[d].ctors[k].args[j].d, .int .i64 xs[d].ctors[k].args[j].i] 32)) w.heap.size 32 #[.int .i64 (d : Int), .int .i64 i]) := KTx
        have KC1 : Hid (Blk (wr.alloc (.cells #[.int .i64 xs[d].ctors[k].args[j].d, .int .i64 xs[d].ctors[k].args[j].i] 32)) (w.heap.size + 2) 138 #[.string xs[d].ctors[k].name, .slice (some ⟨b3, off3, none⟩) xs[d].ctors[k].args.length cap3, .int .i64 xs[d].ctors[k].idx]) := KCx
        have hbs : w.heap.size + 1 ≤ (wr.alloc (.cells #[.int .i64 xs[d].ctors[k].args[j].d, .int .i64 xs[d].ctors[k].args[j].i] 32)).heap.size := Nat.le_of_lt (Nat.lt_of_le_of_lt (Nat.le_add_right _ 1) KC1.out.lt)
        have hbs3 : w.heap.size + 3 ≤ (wr.alloc (.cells #[.int .i64 xs[d].ctors[k].args[j].d, .int .i64 xs[d].ctors[k].args[j].i] 32)).heap.size := KC1.out.lt
        have hrow2 := HN.out
        clear hBx HOx KTx KCx
        go_wp2_with (at_builtin; refine Halt.mk ?_)
        refine Halt.of (wpList_push1 (P := Try.prog) rfl _ _ 136 rfl i0 _ 16 Try.underlying136 HI.out HZ0.out HZ1.out HZ2.out rfl (by decide) TyR_len' TyR_mono' (by rfl) HO1.out ⟨xs[d].ctors[k].args[j].d, xs[d].ctors[k].args[j].i⟩ 32 [.int .i64 (xs[d].ctors[k].args[j].d), .int .i64 (xs[d].ctors[k].args[j].i)] [] _ (by rfl) (by simp) (by simp [Value.oneCell']) ⟨rfl, rfl⟩ (Under.nil _) (fun _ _ h => by cases h) (by have := argsTo_len (resIdx xs[d].ctors[k] i) xs[d].ctors[k].args j; unfold maxLen; omega) (by have := argsTo_len (resIdx xs[d].ctors[k] i) xs[d].ctors[k].args j; omega) hbs ?_)
        intro g cp w3 hown3 hgr3 hat3
        have hrow := HO1.out.row
        have hB3 : Below w.heap.size w w3 := (hB1.alloc hB1.size _).grown hgr3 (by have := hB1.size; simp; omega) (fun g hg => by have := hrow g (mem_rowOf.2 hg); omega)
        have HO3 := Lib.hid hown3
        have KT3 : Hid (Blk w3 w.heap.size 32 #[.int .i64 (d : Int), .int .i64 i]) := (KT1.out.same (Below.heap_alloc _ _ _ KT1.out.lt)).same (hgr3.block _ (by have := KT1.out.lt; simp; omega) (fun e => by have := hrow _ (mem_rowOf.2 e.symm); omega))
        have KC3 : Hid (Blk w3 (w.heap.size + 2) 138 #[.string xs[d].ctors[k].name, .slice (some ⟨b3, off3, none⟩) xs[d].ctors[k].args.length cap3, .int .i64 xs[d].ctors[k].idx]) := (KC1.out.same (Below.heap_alloc _ _ _ KC1.out.lt)).same (hgr3.block _ (by have := KC1.out.lt; simp; omega) (fun e => by have := hrow2 _ (mem_rowOf.2 e.symm); omega))
        have hne3 : ∀ g' ∈ rowOf (.slice (some ⟨g, 0, none⟩) ((argsTo (resIdx xs[d].ctors[k] i) xs[d].ctors[k].args j).length + 1) cp), g' = w.heap.size + 1 ∨ w.heap.size + 3 ≤ g' := fun g' hg' => by
          rw [rowOf_some, List.mem_singleton] at hg'
          subst hg'
          rcases hat3 with h | h
          · exact hrow2 _ (mem_rowOf.2 h)
          · right; have := hbs3; omega
        have HN3 := Lib.hid hne3
        clear hown3 hgr3 hat3 hrow hrow2 hne3
        go_wp2
        go_roundw
        case rel => exact ⟨j + 1, by omega, by go_num, (by rw [HF2.out]; exact HO3.out), hB3, KT3, KC3, HN3⟩
        case measure => (simp [intOf] <;> omega)
    · have hfin : GivesTys w (argsL xs[d].ctors[k] i) (.returned u7) wr := by
        unfold argsL
        have h := HO.out
        rw [argsTo_all _ _ (by omega)] at h
        exact h.tys hB (by omega)
      have HFin := Lib.hid hfin
      clear hfin
      go_wp2
      go_ret
      exact HFin.out
end Go.Proofs.Ytilndhmegaccmaa

namespace Go.Proofs.Ytilndhmegaccmaa
open Go.RowKit

theorem info_int : (Try.prog.info? 3).map (fun i => (i.zero, i.size, i.bytes)) = some (some (.int .i64 0), 1, 8) := by kernel_rfl

/-- a constructor can make values with an index -/
def fitsB (c : Kt) (i : Int) : Bool := c.idx == 0 || (i == 0 || c.idx == i)
def fitAt (cs : List Kt) (i : Int) (k : Nat) : Bool := match cs[k]? with | some c => fitsB c i | none => false
/-- the constructors that can make values with an index, among the first n -/
def fitTo (cs : List Kt) (i : Int) (n : Nat) : List Int := ((List.range n).filter (fitAt cs i)).map Int.ofNat
def ctorsAt (xs : List Dt) (d : Int) : List Kt := match xs[d.toNat]? with | some x => x.ctors | none => []
def ctorsL (xs : List Dt) (t : Ty) : List Int := if t.d = -1 then [] else fitTo (ctorsAt xs t.d) t.i (ctorsAt xs t.d).length
theorem fitTo_zero (cs : List Kt) (i : Int) : fitTo cs i 0 = [] := rfl
theorem fitTo_succ (cs : List Kt) (i : Int) (n : Nat) (h : n < cs.length) : fitTo cs i (n + 1) = if fitsB cs[n] i then fitTo cs i n ++ [(n : Int)] else fitTo cs i n := by
  unfold fitTo
  rw [List.range_succ, List.filter_append]
  have hf : fitAt cs i n = fitsB cs[n] i := by unfold fitAt; rw [List.getElem?_eq_getElem h]
  cases hb : fitsB cs[n] i <;> simp [hf, hb]
theorem fitTo_yes {cs : List Kt} {i : Int} {n : Nat} (h : n < cs.length) (e : fitsB cs[n] i = true) : fitTo cs i (n + 1) = fitTo cs i n ++ [(n : Int)] := by rw [fitTo_succ cs i n h, if_pos e]
theorem fitTo_no {cs : List Kt} {i : Int} {n : Nat} (h : n < cs.length) (e : fitsB cs[n] i = false) : fitTo cs i (n + 1) = fitTo cs i n := by rw [fitTo_succ cs i n h, if_neg (by simp [e])]
theorem fitTo_len (cs : List Kt) (i : Int) (n : Nat) : (fitTo cs i n).length ≤ n := by
  unfold fitTo
  rw [List.length_map]
  exact Nat.le_trans (List.length_filter_le _ _) (by simp)
theorem ctorsL_int {xs : List Dt} {t : Ty} (h : t.d = -1) : ctorsL xs t = [] := if_pos h
theorem ctorsAt_get {xs : List Dt} {d : Nat} (h : d < xs.length) : ctorsAt xs (d : Int) = xs[d].ctors := by unfold ctorsAt; rw [Int.toNat_natCast, List.getElem?_eq_getElem h]
theorem ctorsL_data {xs : List Dt} {d : Nat} {i : Int} (h : d < xs.length) : ctorsL xs ⟨(d : Int), i⟩ = fitTo xs[d].ctors i xs[d].ctors.length := by
  unfold ctorsL
  rw [if_neg (by show ¬ ((d : Int) = -1); omega)]
  show fitTo (ctorsAt xs (d : Int)) i (ctorsAt xs (d : Int)).length = _
  rw [ctorsAt_get h]
def MadeNats (w : World) (xs : List Int) (e : Ending) (w' : World) : Prop := MadeArr NatR w xs e w'
theorem MadeNats.nil (w : World) : MadeNats w [] (.returned (.slice none 0 0)) w := ⟨_, [], rfl, Below.refl _ _, Arr.nil, Free.nil _, Fresh.nil _ _⟩
theorem Own.nats {w0 w : World} {B : Nat} {E : TypeId} {xs : List Int} {v : Value} (h : Own w B E 1 NatR xs v []) (hb : Below w0.heap.size w0 w) (hB : w0.heap.size ≤ B) : MadeNats w0 xs (.returned v) w :=
  h.gives hb hB (fun b hb => by cases hb) (Free.nil _)
theorem NatR_mono' {w w' : World} (x : Int) (cs : List Value) (F : List Nat) (hk : Kept F w w') (h : NatR w x cs F) : NatR w' x cs F := h
set_option maxRecDepth 100000 in
set_option maxHeartbeats 1600000 in
theorem impl_ctorsOf (xs : List Dt) (t : Ty) (w : World) (v : Value) (F : List Nat) (hx : Arr w (DtR w) xs v F) (hf : Under w.heap.size F) (hw : WorldOK xs) (ht : InWorld xs.length t) :
    Calls Try.prog 112 #[v, .agg #[.int .i64 t.d, .int .i64 t.i]] w (MadeNats w (ctorsL xs t)) := by
  obtain ⟨A, cap, rfl, hc1, hc2⟩ := hx.form
  have HX := Lib.hid hx
  have HF := Lib.hid hf
  clear hx hf
  rcases ht with hd | ⟨d, hd, hdl⟩
  · have hf := Lib.hid (ctorsL_int (xs := xs) hd)
    have t0 : (t.d != -1) = false := by simp [hd]
    clear hd
    go_enter Try.func112, Try.ntmps112
    go_wp2
    go_ret
    rw [hf.out]
    exact ⟨_, [], rfl, (Below.refl _ _).alloc (Nat.le_refl _) _, Arr.nil, Free.nil _, Fresh.nil _ _⟩
  · obtain ⟨t1, t2⟩ := t
    simp only at hd
    subst hd
    have hf := Lib.hid (ctorsL_data (i := t2) hdl)
    have t0 : ((d : Int) != -1) = true := by rw [bne_iff_ne]; omega
    obtain ⟨i0, hi, hz0, hz1, hz2⟩ := info_parts info_int
    have HI := Lib.hid hi
    have HZ0 := Lib.hid hz0
    have HZ1 := Lib.hid hz1
    have HZ2 := Lib.hid hz2
    clear hi hz0 hz1 hz2
    obtain ⟨b, off, rfl⟩ := HX.out.ptr (by omega)
    have hB0 : Below w.heap.size w (w.alloc (.cells #[.int .i64 (d : Int), .int .i64 t2] 32)) := (Below.refl _ _).alloc (Nat.le_refl _) _
    obtain ⟨A1, cap1, G1, hb, c0, c1, HK, HG, hs, hn1, hn2⟩ := ArrDt.at HX.out HF.out hB0 d hdl
    have g1 : (0 : Int) ≤ (d : Int) := by omega
    have g2 : (d : Int) < (xs.length : Int) := by omega
    have HL := Lib.hid (hw.at hdl).hi
    clear c0 hs
    go_enter Try.func112, Try.ntmps112
    go_wp2
    clear c1 hb
    go_loopw [5, 18] (fun ov iv wr => ∃ k : Nat, k ≤ xs[d].ctors.length ∧ iv = .int .i64 k ∧ Hid (Own wr (w.heap.size + 1) 3 1 NatR (fitTo xs[d].ctors t2 k) ov []) ∧ Below w.heap.size w wr ∧ Hid (Blk wr w.heap.size 32 #[.int .i64 (d : Int), .int .i64 t2])) (fun _ iv _ => xs[d].ctors.length - (intOf iv).toNat)
    case atStart => exact ⟨0, Nat.zero_le _, rfl, (show Own _ _ _ _ _ [] _ _ from Own.nil _ _ _ _ _), hB0, Blk.new _ _ _⟩
    case round =>
      clear hB0
      obtain ⟨k, hk, rfl, HO, hB, KT⟩ := hrel
      by_cases hkl : k < xs[d].ctors.length
      · obtain ⟨b2, off2, rfl⟩ := HK.out.ptr (by omega)
        obtain ⟨A3, cap3, G3, hb3, k0, k1, k2, HC, HG3, -, -, -⟩ := ArrKt.rep HK.out HG.out hB k hkl
        have g3 : (0 : Int) ≤ (k : Int) := by omega
        have g4 : (k : Int) < (xs[d].ctors.length : Int) := by omega
        have y1 : wr.cell? ⟨w.heap.size, 1, none⟩ = some (.int .i64 t2) := (KT.out.cell 1).trans (by simp)
        have hy1 := KT.out.lt
        have hb1 : Below wr.heap.size wr (wr.alloc (.cells #[.string xs[d].ctors[k].name, .slice A3 xs[d].ctors[k].args.length cap3, .int .i64 xs[d].ctors[k].idx] 138)) := (Below.refl _ _).alloc (Nat.le_refl _) _
        have hB1 := hB.trans (hb1.mono hB.size)
        have HO1 := Lib.hid (HO.out.below (fun x cs G hk h => NatR_mono _ _ x cs G hk h) hb1)
        have KT1 : Hid (Blk (wr.alloc (.cells #[.string xs[d].ctors[k].name, .slice A3 xs[d].ctors[k].args.length cap3, .int .i64 xs[d].ctors[k].idx] 138)) w.heap.size 32 #[.int .i64 (d : Int), .int .i64 t2]) := KT.out.same (hb1.block _ KT.out.lt)
        have hsz1 : wr.heap.size ≤ (wr.alloc (.cells #[.string xs[d].ctors[k].name, .slice A3 xs[d].ctors[k].args.length cap3, .int .i64 xs[d].ctors[k].idx] 138)).heap.size := hb1.size
        have hz1' : w.heap.size + 1 ≤ wr.heap.size := KT.out.lt
        cases q0 : (t2 == 0) with
        | true =>
          have e1 : fitsB xs[d].ctors[k] t2 = true := by unfold fitsB; rw [q0, Bool.true_or, Bool.or_true]
          have HF2 := Lib.hid (fitTo_yes hkl e1)
          clear e1
          have hlen := fitTo_len xs[d].ctors t2 k
          go_wp2_with (at_builtin; refine Halt.mk ?_)
          refine Halt.of (wpList_push1 (P := Try.prog) rfl _ _ 106 rfl i0 _ 8 Try.underlying106 HI.out HZ0.out HZ1.out HZ2.out rfl Nat.zero_lt_one NatR_len NatR_mono (by rfl) HO1.out (k : Int) 3 [.int .i64 (k : Int)] [] _ (by rfl) (by simp) (by simp [Value.oneCell']) ⟨rfl, rfl⟩ (Under.nil _) (fun _ _ h => by cases h) (by have := HL.out; unfold maxLen; omega) (by have := HL.out; omega) (Nat.le_trans hz1' hsz1) ?_)
          intro g cp w3 hown3 hgr3 hat3
          have hrow := HO1.out.row
          have hB3 : Below w.heap.size w w3 := (hB1.alloc hB1.size _).grown hgr3 (by have := hB1.size; simp; omega) (fun g hg => by have := hrow g (mem_rowOf.2 hg); omega)
          have HO3 := Lib.hid hown3
          have KT3 : Hid (Blk w3 w.heap.size 32 #[.int .i64 (d : Int), .int .i64 t2]) := (KT1.out.same (Below.heap_alloc _ _ _ KT1.out.lt)).same (hgr3.block _ (by have := KT1.out.lt; simp; omega) (fun e => by have := hrow _ (mem_rowOf.2 e.symm); omega))
          have hsz3 := hgr3.size
          clear hown3 hgr3 hat3 hrow hlen
          go_wp2
          go_roundw
          case rel => exact ⟨k + 1, by omega, by go_num, (by rw [HF2.out]; exact HO3.out), hB3, KT3⟩
          case measure => (simp [intOf] <;> omega)
        | false =>
          cases q1 : (xs[d].ctors[k].idx == 0) with
          | true =>
            have e1 : fitsB xs[d].ctors[k] t2 = true := by unfold fitsB; rw [q1, Bool.true_or]
            have HF2 := Lib.hid (fitTo_yes hkl e1)
            clear e1
            have hlen := fitTo_len xs[d].ctors t2 k
            go_wp2_with (at_builtin; refine Halt.mk ?_)
            refine Halt.of (wpList_push1 (P := Try.prog) rfl _ _ 106 rfl i0 _ 8 Try.underlying106 HI.out HZ0.out HZ1.out HZ2.out rfl Nat.zero_lt_one NatR_len NatR_mono (by rfl) HO1.out (k : Int) 3 [.int .i64 (k : Int)] [] _ (by rfl) (by simp) (by simp [Value.oneCell']) ⟨rfl, rfl⟩ (Under.nil _) (fun _ _ h => by cases h) (by have := HL.out; unfold maxLen; omega) (by have := HL.out; omega) (Nat.le_trans hz1' hsz1) ?_)
            intro g cp w3 hown3 hgr3 hat3
            have hrow := HO1.out.row
            have hB3 : Below w.heap.size w w3 := (hB1.alloc hB1.size _).grown hgr3 (by have := hB1.size; simp; omega) (fun g hg => by have := hrow g (mem_rowOf.2 hg); omega)
            have HO3 := Lib.hid hown3
            have KT3 : Hid (Blk w3 w.heap.size 32 #[.int .i64 (d : Int), .int .i64 t2]) := (KT1.out.same (Below.heap_alloc _ _ _ KT1.out.lt)).same (hgr3.block _ (by have := KT1.out.lt; simp; omega) (fun e => by have := hrow _ (mem_rowOf.2 e.symm); omega))
            have hsz3 := hgr3.size
            clear hown3 hgr3 hat3 hrow hlen
            go_wp2
            go_roundw
            case rel => exact ⟨k + 1, by omega, by go_num, (by rw [HF2.out]; exact HO3.out), hB3, KT3⟩
            case measure => (simp [intOf] <;> omega)
          | false =>
            cases q2 : (xs[d].ctors[k].idx == t2) with
            | true =>
              have e1 : fitsB xs[d].ctors[k] t2 = true := by unfold fitsB; rw [q0, q1, q2]; rfl
              have HF2 := Lib.hid (fitTo_yes hkl e1)
              clear e1
              have hlen := fitTo_len xs[d].ctors t2 k
              go_wp2_with (at_builtin; refine Halt.mk ?_)
              refine Halt.of (wpList_push1 (P := Try.prog) rfl _ _ 106 rfl i0 _ 8 Try.underlying106 HI.out HZ0.out HZ1.out HZ2.out rfl Nat.zero_lt_one NatR_len NatR_mono (by rfl) HO1.out (k : Int) 3 [.int .i64 (k : Int)] [] _ (by rfl) (by simp) (by simp [Value.oneCell']) ⟨rfl, rfl⟩ (Under.nil _) (fun _ _ h => by cases h) (by have := HL.out; unfold maxLen; omega) (by have := HL.out; omega) (Nat.le_trans hz1' hsz1) ?_)
              intro g cp w3 hown3 hgr3 hat3
              have hrow := HO1.out.row
              have hB3 : Below w.heap.size w w3 := (hB1.alloc hB1.size _).grown hgr3 (by have := hB1.size; simp; omega) (fun g hg => by have := hrow g (mem_rowOf.2 hg); omega)
              have HO3 := Lib.hid hown3
              have KT3 : Hid (Blk w3 w.heap.size 32 #[.int .i64 (d : Int), .int .i64 t2]) := (KT1.out.same (Below.heap_alloc _ _ _ KT1.out.lt)).same (hgr3.block _ (by have := KT1.out.lt; simp; omega) (fun e => by have := hrow _ (mem_rowOf.2 e.symm); omega))
              have hsz3 := hgr3.size
              clear hown3 hgr3 hat3 hrow hlen
              go_wp2
              go_roundw
              case rel => exact ⟨k + 1, by omega, by go_num, (by rw [HF2.out]; exact HO3.out), hB3, KT3⟩
              case measure => (simp [intOf] <;> omega)
            | false =>
              have e1 : fitsB xs[d].ctors[k] t2 = false := by unfold fitsB; rw [q0, q1, q2]; rfl
              have HF2 := Lib.hid (fitTo_no hkl e1)
              clear e1
              go_wp2
              go_roundw
              case rel => exact ⟨k + 1, by omega, by go_num, (by rw [HF2.out]; exact HO1.out), hB1, KT1⟩
              case measure => (simp [intOf] <;> omega)
      · have hfin : MadeNats w (ctorsL xs ⟨(d : Int), t2⟩) (.returned u5) wr := by
          rw [hf.out]
          have h := HO.out
          rw [show k = xs[d].ctors.length by omega] at h
          exact h.nats hB (by omega)
        have HFin := Lib.hid hfin
        clear hfin
        go_wp2
        go_ret
        exact HFin.out
end Go.Proofs.Ytilndhmegaccmaa

namespace Go.Proofs.Ytilndhmegaccmaa
open Go.RowKit

set_option maxRecDepth 100000 in
set_option maxHeartbeats 1600000 in
theorem ctorOk_closure (A : Option Addr) (n cap : Nat) (t : Ty) (w : World) (g : Nat) (hn : n ≤ 9223372036854775807) (hg : w.cell? ⟨g, 0, none⟩ = some (.slice A n cap)) (hgl : g < w.heap.size) :
    Calls Try.prog 159 #[.agg #[.int .i64 t.d, .int .i64 t.i], .pointer (some ⟨g, 0, none⟩)] w fun e w' => e = .returned (.bool (!argOkB n t)) ∧ Below w.heap.size w w' := by
  have HN := Lib.hid hn
  clear hn
  go_enter Try.func159, Try.ntmps159
  go_wp2_with fail
  obtain ⟨W2, hW2⟩ : ∃ W2, W2 = w.alloc (.cells #[.int .i64 t.d, .int .i64 t.i] 32) := ⟨_, rfl⟩
  have hB2 : Below w.heap.size w W2 := by rw [hW2]; exact (Below.refl _ _).alloc (Nat.le_refl _) _
  rw [← hW2]
  clear hW2
  refine (impl_argOk A n cap t W2 HN.out).mono ?_
  rintro e w' ⟨rfl, hB'⟩
  have hB3 := hB2.trans (hB'.mono hB2.size)
  generalize hbb : argOkB n t = bb
  have HBB := Lib.hid hbb
  clear hbb
  go_wp2
  go_ret
  exact ⟨ret_bool (by rw [HBB.out]), hB3⟩

set_option maxRecDepth 100000 in
set_option maxHeartbeats 1600000 in
theorem IndexFunc_Ty (A0 : Option Addr) (n cap0 : Nat) (xs : List Ty) (r : Int) (hr : FirstAt (fun t => !argOkB n t) xs r) (w : World) (x : Value) (F : List Nat) (g : Nat) (hn : n ≤ 9223372036854775807) (hg : w.cell? ⟨g, 0, none⟩ = some (.slice A0 n cap0)) (hgl : g < w.heap.size) (hx : Arr w (TyR w) xs x F) (hF : Under w.heap.size F) :
    Calls Try.prog 148 #[x, .func (.func 159) #[] #[.pointer (some ⟨g, 0, none⟩)]] w fun e w' => e = .returned (.int .i64 r) ∧ Below w.heap.size w w' := by
  have HX := Lib.hid hx
  obtain ⟨A, cap, rfl, hc1, hc2⟩ := hx.form
  clear hx
  have HF := Lib.hid hF
  clear hF
  have HG0 := Lib.hid hg
  have HN := Lib.hid hn
  have HR := Lib.hid hr
  clear hg hn hr
  go_enter Try.func148, Try.ntmps148
  go_wp2
  go_loopw [8] (fun i wr => ∃ k : Nat, k ≤ xs.length ∧ i = .int .i64 k ∧ Hid (∀ j (hj : j < xs.length), j < k → (!argOkB n xs[j]) = false) ∧ Below w.heap.size w wr) (fun i _ => xs.length - (intOf i).toNat)
  case atStart => exact ⟨0, Nat.zero_le _, rfl, fun j hj h => by omega, Below.refl _ _⟩
  case round =>
    obtain ⟨k, hk, rfl, HT, hB⟩ := hrel
    by_cases hlt : k < xs.length
    · have hi0 : (0 : Int) ≤ (k : Int) := by omega
      have hi1 : (k : Int) < (xs.length : Int) := by omega
      obtain ⟨b, off, cs, G, rfl, hb, hcs, hv, -⟩ := HX.out.get TyR_len hlt
      have hbl := HF.out b hb
      have hcs := hcs.same (hB.block b hbl)
      obtain rfl := TyR_form hv
      have c0 := hcs 0 _ rfl
      have c1 := hcs 1 _ rfl
      simp only [Nat.add_zero] at c0
      clear hcs hv hb
      have hbw := Nat.lt_of_lt_of_le hbl hB.size
      go_wp2_with fail
      refine (ctorOk_closure A0 n cap0 xs[k] wr g HN.out ((hB.cell (p := ⟨g, 0, none⟩) hgl).trans HG0.out) (Nat.lt_of_lt_of_le hgl hB.size)).mono ?_
      rintro e w' ⟨rfl, hB'⟩
      have hB3 := hB.trans (hB'.mono hB.size)
      cases hq : argOkB n xs[k] with
      | false =>
        have hf : Hid (r = (k : Int)) := HR.out.hit hlt (by simp [hq]) (fun j hj h => HT.out j hj h)
        clear hq
        go_wp2
        go_ret
        exact ⟨ret_int hf.out.symm, hB3⟩
      | true =>
        have hT2 : Hid (∀ j (hj : j < xs.length), j < k + 1 → (!argOkB n xs[j]) = false) := fun j hj h => by
          rcases Nat.lt_or_ge j k with h2 | h2
          · exact HT.out j hj h2
          · obtain rfl : j = k := by omega
            rw [hq]; rfl
        clear hq
        go_wp2
        go_roundw
        case rel => exact ⟨k + 1, by omega, by go_num, hT2, hB3⟩
        case measure => simp [intOf]; omega
    · have hf : Hid (r = -1) := HR.out.miss (fun j hj => HT.out j hj (by omega))
      go_wp2
      go_ret
      exact ⟨ret_int hf.out.symm, hB⟩

set_option maxRecDepth 100000 in
set_option maxHeartbeats 1600000 in
theorem ContainsFunc_Ty (A0 : Option Addr) (n cap0 : Nat) (xs : List Ty) (w : World) (x : Value) (F : List Nat) (g : Nat) (hn : n ≤ 9223372036854775807) (hg : w.cell? ⟨g, 0, none⟩ = some (.slice A0 n cap0)) (hgl : g < w.heap.size) (hx : Arr w (TyR w) xs x F) (hF : Under w.heap.size F) :
    Calls Try.prog 115 #[x, .func (.func 159) #[] #[.pointer (some ⟨g, 0, none⟩)]] w fun e w' => e = .returned (.bool (xs.any fun t => !argOkB n t)) ∧ Below w.heap.size w w' := by
  obtain ⟨r, hr⟩ := FirstAt.ex (fun t => !argOkB n t) xs
  have hf : Hid ((xs.any fun t => !argOkB n t) = decide (0 ≤ r)) := hr.any
  have hcall := IndexFunc_Ty A0 n cap0 xs r hr w x F g hn hg hgl hx hF
  obtain ⟨A, cap, rfl, hc1, hc2⟩ := hx.form
  have HC := Lib.hid hcall
  clear hcall hr hx hF hn hg
  go_enter Try.func115, Try.ntmps115
  go_wp2_with fail
  refine HC.out.mono ?_
  rintro e w' ⟨rfl, hB'⟩
  go_wp2
  go_ret
  exact ⟨ret_bool hf.out.symm, hB'⟩
theorem any_not_all {α : Type} (p : α → Bool) (l : List α) : (!(l.any fun t => !p t)) = l.all p := by
  induction l with
  | nil => rfl
  | cons x xs ih => rw [List.any_cons, List.all_cons, Bool.not_or, ih, Bool.not_not]

set_option maxRecDepth 100000 in
set_option maxHeartbeats 1600000 in
theorem impl_ctorOk (A0 : Option Addr) (n cap0 : Nat) (c : Kt) (w : World) (cs : List Value) (F : List Nat) (hn : n ≤ 9223372036854775807) (hv : KtR w c cs F) (hF : Under w.heap.size F) :
    Calls Try.prog 131 #[.slice A0 n cap0, .agg cs.toArray] w fun e w' => e = .returned (.bool (ctorOkB n c)) ∧ Below w.heap.size w w' := by
  obtain ⟨kv, rfl, ha, hs⟩ := hv
  have HX := Lib.hid ha
  obtain ⟨A, cap, rfl, hc1, hc2⟩ := ha.form
  clear ha
  have HF := Lib.hid hF
  have HS := Lib.hid hs
  have HN := Lib.hid hn
  clear hF hs hn
  go_enter Try.func131, Try.ntmps131
  go_wp2_with fail
  obtain ⟨W2, hW2⟩ : ∃ W2, W2 = (w.alloc (.cells #[.slice A0 n cap0] 30)).alloc (.cells #[.string c.name, .slice A c.args.length cap, .int .i64 c.idx] 138) := ⟨_, rfl⟩
  have hB2 : Below w.heap.size w W2 := by rw [hW2]; exact ((Below.refl _ _).alloc (Nat.le_refl _) _).alloc (by simp) _
  have k1 : Blk W2 w.heap.size 30 #[.slice A0 n cap0] := by rw [hW2]; exact (Blk.new w _ _).same (Below.heap_alloc _ _ _ (by simp))
  have k2 : Blk W2 (w.heap.size + 1) 138 #[.string c.name, .slice A c.args.length cap, .int .i64 c.idx] := by rw [hW2]; have := Blk.new (w.alloc (.cells #[.slice A0 n cap0] 30)) 138 #[.string c.name, .slice A c.args.length cap, .int .i64 c.idx]; simpa using this
  rw [← hW2]
  clear hW2
  have x0 : W2.cell? ⟨w.heap.size, 0, none⟩ = some (.slice A0 n cap0) := (k1.cell 0).trans (by simp)
  have x1 : W2.cell? ⟨w.heap.size + 1, 1, none⟩ = some (.slice A c.args.length cap) := (k2.cell 1).trans (by simp)
  have x2 : W2.cell? ⟨w.heap.size + 1, 2, none⟩ = some (.int .i64 c.idx) := (k2.cell 2).trans (by simp)
  have hlt0 := k1.lt
  clear k1 k2
  refine (impl_NameValid c.name W2 (by have := HS.out; unfold maxLen; omega)).mono ?_
  rintro e w' ⟨rfl, rfl⟩
  have h0 : ctorOkB n c = (nameOk c.name.data.toList && (decide ((c.args.length : Int) ≤ 3) && (withinB c.idx 0 3 && c.args.all (argOkB n)))) := rfl
  cases hn : nameOk c.name.data.toList with
  | false =>
    have hf : Hid (ctorOkB n c = false) := by rw [h0, hn]; rfl
    clear hn h0
    go_wp2
    go_ret
    exact ⟨ret_bool hf.out.symm, hB2⟩
  | true =>
    rw [hn, Bool.true_and] at h0
    clear hn
    cases hl : decide ((c.args.length : Int) ≤ 3) with
    | false =>
      have hf : Hid (ctorOkB n c = false) := by rw [h0, hl]; rfl
      clear h0
      go_wp2
      go_ret
      exact ⟨ret_bool hf.out.symm, hB2⟩
    | true =>
      rw [hl, Bool.true_and] at h0
      have H0 := Lib.hid h0
      clear h0
      go_wp2_with fail
      refine (impl_within c.idx 0 3 W2).mono ?_
      rintro e w' ⟨rfl, rfl⟩
      cases hi : withinB c.idx 0 3 with
      | false =>
        have hf : Hid (ctorOkB n c = false) := by rw [H0.out, hi]; rfl
        clear hi
        go_wp2
        go_ret
        exact ⟨ret_bool hf.out.symm, hB2⟩
      | true =>
        have hf : Hid (ctorOkB n c = !(c.args.any fun t => !argOkB n t)) := by rw [H0.out, hi, Bool.true_and, any_not_all]; rfl
        clear hi
        go_wp2_with fail
        refine (ContainsFunc_Ty A0 n cap0 c.args W2 _ F w.heap.size HN.out x0 hlt0 (ArrTy.below HX.out hB2 HF.out) (HF.out.mono hB2.size)).mono ?_
        rintro e w' ⟨rfl, hB'⟩
        have hB3 := hB2.trans (hB'.mono hB2.size)
        generalize hbb : (c.args.any fun t => !argOkB n t) = bb
        have HBB := Lib.hid hbb
        clear hbb
        go_wp2
        go_ret
        exact ⟨ret_bool (by rw [hf.out, HBB.out]), hB3⟩
end Go.Proofs.Ytilndhmegaccmaa

namespace Go.Proofs.Ytilndhmegaccmaa
open Go.RowKit

theorem plainElem_bool_inv {H : Type} {P : Program} {e : TypeId} (he : P.underlying e = some .bool) {v : Value} {z : DataW H × List MemPlace} (h : Go.plainElem P e v = some z) : ∃ a, v = .bool a ∧ z = (.lit (.bool a), []) := by
  unfold Go.plainElem at h
  rw [he] at h
  cases v <;> simp at h
  exact ⟨_, rfl, h.symm⟩

theorem lookup_bool {H : Type} {P : Program} {k t e : TypeId} {w : World} {b n : Nat} {D : DataW H} (h : w.ownsMap P k (Go.plainElem P e) b n D) (K : Go.Maps.Keyed P k) (ht : P.underlying t = some (.map k e)) (he : P.underlying e = some .bool) (hz : (zeroValue e).run P w = .ok (.bool false) w)
    {key : Value} {kl : Lit} (hkey : Go.keyOf P k key = some kl) : ∃ c, (Instr.lookup t (.map (some b)) key false).run P w = .ok (.bool c) w ∧ D.atKey kl (.lit (.bool false)) = .lit (.bool c) := by
  obtain ⟨v, ps, hrun, hv⟩ := h.lookup K ht hz (plainElem_bool he false) hkey
  obtain ⟨c, rfl, hc⟩ := plainElem_bool_inv he hv
  simp only [Prod.mk.injEq] at hc
  exact ⟨c, hrun, hc.1⟩
end Go.Proofs.Ytilndhmegaccmaa
