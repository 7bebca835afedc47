/-
  Lemmas and contracts of functions: l1Copy of the reference: a deep copy of a world. Conditions: no list of it is longer than 100. l1Mutate of the reference: a copy of a world, sometimes made invalid. Conditions: its lists are short; the reader has given no more than 900000 numbers. A row of values of the call's own whose first element is changed. Conditions: none. append of a whole slice within a region by HeldB. Conditions: none. l2Mutate of the reference: a changed value. Conditions: some place B to come has at least three more points (text MutT) than the place at hand.
-/
import Derived.Test.YtgckkiencmickaaKAF
import Derived.Deep.RegionWith
import Derived.Test.YtgckkiencmickaaKAC
import Derived.Test.YtgckkiencmickaaKAD
import Derived.Deep.Cut

set_option linter.unusedVariables false
set_option linter.unusedSimpArgs false

namespace Go.Proofs.Ytgckkiencmickaa
open Go.RowKit

def dtk (xs : List Dt) (d : Nat) : List Dt := xs.take d
def ktk (cs : List Kt) (k : Nat) : List Kt := cs.take k
theorem dtk_len (xs : List Dt) (d : Nat) : (dtk xs d).length ≤ d := by unfold dtk; rw [List.length_take]; omega
theorem ktk_len (cs : List Kt) (k : Nat) : (ktk cs k).length ≤ k := by unfold ktk; rw [List.length_take]; omega
theorem dtk_succ (xs : List Dt) (d : Nat) (h : d < xs.length) : dtk xs (d + 1) = dtk xs d ++ [xs[d]] := take_snoc' xs d h
theorem ktk_succ (cs : List Kt) (k : Nat) (h : k < cs.length) : ktk cs (k + 1) = ktk cs k ++ [cs[k]] := take_snoc' cs k h
theorem dtk_all (xs : List Dt) {d : Nat} (h : xs.length ≤ d) : dtk xs d = xs := List.take_of_length_le h
theorem ktk_all (cs : List Kt) {k : Nat} (h : cs.length ≤ k) : ktk cs k = cs := List.take_of_length_le h
theorem Own.free_row {α : Type} {w : World} {B k : Nat} {E : TypeId} {R : World → α → List Value → List Nat → Prop} {xs : List α} {v : Value} {F : List Nat} (h : Own w B E k R xs v F) : Free w (rowOf v) := by
  obtain ⟨cs, h1, -⟩ := h
  rcases h1.2 with ⟨rfl, -⟩ | ⟨g, cap, cur, rfl, hb, hg, -⟩
  · exact Free.nil _
  · rw [rowOf_some]
    exact ⟨by simp, fun b hb' i => by rw [List.mem_singleton] at hb'; subst hb'; simp [World.frozen?, hg]⟩
theorem TyR_one (w : World) (x : Ty) (cs : List Value) (G : List Nat) (h : TyR w x cs G) : ∀ u ∈ cs, u.oneCell' = true := by
  obtain ⟨rfl, -⟩ := h
  simp [Value.oneCell']
theorem wpList_append_run {P : Program} {w : World} {ops : Array Oper} {rest : List Oper} {o : Oper} {a : Act} {Q : Exit → Act → World → Prop} (hgd : o.guard = none) (s x : Operand) (t : TypeId)
    (ho : o.op = .call { callee := .builtin .append, args := #[s, x], argTypes := #[t, t] }) {sv xv v' : Value} {w' : World} (hs : a.eval s = sv) (hx : a.eval x = xv)
    (hr : (Builtin.append_ #[t, t] o.type #[sv, xv]).run P w = .ok v' w') (h : wpList P ops Q rest (a.put o.dst v') w') : wpList P ops Q (o :: rest) a w := by
  refine wpList_plain hgd fun K hK => ?_
  unfold Oper.wp execOp
  simp only [ho, resolve, invoke, builtin, Sem.run_bind, Sem.run_pure, Result.andThen_ok, List.map_toArray, List.map_cons, List.map_nil, hs, hx, hr]
  exact hK _ _ h
set_option maxRecDepth 100000 in
set_option maxHeartbeats 6400000 in
theorem spec_l1Copy (xs : List Dt) (w : World) (v : Value) (F : List Nat) (hx : Arr w (DtR w) xs v F) (hf : Under w.heap.size F) (hl : xs.length ≤ 100) (hsm : SmallW 100 xs) :
    Calls Try.prog 92 #[v] w fun e w' => ∃ v' F', e = .returned v' ∧ Below w.heap.size w w' ∧ Own w' w.heap.size 122 2 DtO xs v' F' ∧ Free w' F' ∧ (∀ b ∈ F', w.heap.size + 1 ≤ b) := by
  obtain ⟨A, cap, rfl, hc1, hc2⟩ := hx.form
  obtain ⟨i0, hi, hz0, hz1, hz2⟩ := info_parts info_KtE
  have HI := Lib.hid hi
  have HZ0 := Lib.hid hz0
  have HZ1 := Lib.hid hz1
  have HZ2 := Lib.hid hz2
  clear hi hz0 hz1 hz2
  obtain ⟨j0, hj, hj0, hj1, hj2⟩ := info_parts info_tyE
  have HJ := Lib.hid hj
  have HJ0 := Lib.hid hj0
  have HJ1 := Lib.hid hj1
  have HJ2 := Lib.hid hj2
  clear hj hj0 hj1 hj2
  obtain ⟨m0, hm, hm0, hm1, hm2⟩ := info_parts info_DtE
  have HM := Lib.hid hm
  have HM0 := Lib.hid hm0
  have HM1 := Lib.hid hm1
  have HM2 := Lib.hid hm2
  clear hm hm0 hm1 hm2
  have HSM := Lib.hid hsm
  have HX := Lib.hid hx
  have HF := Lib.hid hf
  clear hx hf
  clear hsm
  go_enter Try.func92, Try.ntmps92
  go_wp2
  have hB1 : Below w.heap.size w (w.alloc (.cells #[] 122)) := (Below.refl _ _).alloc (Nat.le_refl _) _
  have HO1 : Hid (Own (w.alloc (.cells #[] 122)) w.heap.size 122 2 DtO (dtk xs 0) (.slice (some ⟨w.heap.size, 0, none⟩) 0 0) []) := Own.made w w.heap.size 122 2 DtO #[] 0 (Nat.le_refl _) (by simp [maxLen]) rfl
  have hw1 : (w.alloc (.cells #[] 122)).heap.size = w.heap.size + 1 := World.size_alloc _ _
  obtain ⟨w1, hw1e⟩ : ∃ w1, w1 = w.alloc (.cells #[] 122) := ⟨_, rfl⟩
  rw [← hw1e] at hB1 HO1 hw1 ⊢
  clear hw1e
  go_loopw [3, 4] (fun ov dv wr => ∃ d : Nat, ∃ Fo : List Nat, d ≤ xs.length ∧ dv = .int .i64 d ∧ Hid (Own wr w.heap.size 122 2 DtO (dtk xs d) ov Fo) ∧ Hid (Free wr Fo) ∧ Hid (∀ b ∈ Fo, w1.heap.size ≤ b) ∧ Hid (Chg [w.heap.size] w1 wr) ∧ Below w.heap.size w wr ∧ w1.heap.size ≤ wr.heap.size) (fun _ dv _ => xs.length - (intOf dv).toNat)
  case atStart => exact ⟨0, [], Nat.zero_le _, rfl, HO1, Free.nil _, (fun b hb => by cases hb), Chg.refl _ _, hB1, Nat.le_refl _⟩
  case round =>
    clear hB1 HO1
    obtain ⟨d, Fo, hd, rfl, HO, HFr, HFh, HC, hB, hwr⟩ := hrel
    by_cases hdl : d < xs.length
    · obtain ⟨b, off, rfl⟩ := HX.out.ptr (by omega)
      have g1 : (0 : Int) ≤ (d : Int) := by omega
      have g2 : (d : Int) < (xs.length : Int) := by omega
      obtain ⟨A1, cap1, G1, hbw, c0w, c1w, HK, HG, hns, hn1, hn2⟩ := ArrDt.at HX.out HF.out (Below.refl _ _) d hdl
      have c0 := (hB.cell (p := ⟨b, off + d * 2, none⟩) hbw).trans c0w
      have hb : b < wr.heap.size := Nat.lt_of_lt_of_le hbw hB.size
      have hcl : xs[d].ctors.length ≤ 100 := (HSM.out _ (List.getElem_mem hdl)).1
      have hdk := dtk_len xs d
      have HB8 : Hid (∀ b ∈ rowOf u3 ++ Fo, b < wr.heap.size) := fun b hb => by
        rcases List.mem_append.1 hb with h | h
        · exact (HO.out.row b h).2
        · exact HO.out.under b h
      obtain ⟨w8, hw8⟩ : ∃ w8, w8 = wr := ⟨_, rfl⟩
      rw [← hw8] at HO HFr HC hB hwr c0 hb HB8 ⊢
      clear hw8
      have hw9 : Below w8.heap.size w8 (w8.alloc (.cells #[.string xs[d].name, .slice none 0 0] 122)) := (Below.refl _ _).alloc (Nat.le_refl _) _
      have HO9 : Hid (Own (w8.alloc (.cells #[.string xs[d].name, .slice none 0 0] 122)) w.heap.size 122 2 DtO (dtk xs d) u3 Fo) := HO.out.below (fun x cs G hk h => DtO_mono _ _ x cs G hk h) hw9
      have HFr9 : Hid (Free (w8.alloc (.cells #[.string xs[d].name, .slice none 0 0] 122)) Fo) := HFr.out.kept (.of_below hw9 HO.out.under)
      have HC9 : Hid (Chg [w.heap.size] w1 (w8.alloc (.cells #[.string xs[d].name, .slice none 0 0] 122))) := HC.out.step hw9
      have KD9 : Hid (Blk (w8.alloc (.cells #[.string xs[d].name, .slice none 0 0] 122)) w8.heap.size 122 #[.string xs[d].name, .slice none 0 0]) := Blk.new _ _ _
      have hB9 := hB.trans (hw9.mono hB.size)
      have hw9s : (w8.alloc (.cells #[.string xs[d].name, .slice none 0 0] 122)).heap.size = w8.heap.size + 1 := World.size_alloc _ _
      have hHD8 : w.heap.size ≤ w8.heap.size := hB.size
      have HR : Hid (∀ g ∈ rowOf u3, g = w.heap.size ∨ w1.heap.size ≤ g) := fun g hg => by have := (HO.out.row g hg).1; omega
      go_wp2
      obtain ⟨w9, hw9e⟩ : ∃ w9, w9 = w8.alloc (.cells #[.string xs[d].name, .slice none 0 0] 122) := ⟨_, rfl⟩
      rw [← hw9e] at HO9 HFr9 HC9 KD9 hB9 hw9s ⊢
      clear hw9 hw9e HO HFr HC hB c0 hb
      go_loopw [6] (fun kv' wr => ∃ k : Nat, ∃ kv : Value, ∃ Fk : List Nat, k ≤ xs[d].ctors.length ∧ kv' = .int .i64 k ∧ Hid (Blk wr w8.heap.size 122 #[.string xs[d].name, kv]) ∧ Hid (Own wr (w8.heap.size + 1) 126 3 KtO (ktk xs[d].ctors k) kv Fk) ∧ Hid (Free wr Fk) ∧ Hid (∀ b ∈ Fk, w8.heap.size + 1 ≤ b) ∧ Hid (Chg [w8.heap.size] w9 wr) ∧ Below w.heap.size w wr ∧ w9.heap.size ≤ wr.heap.size) (fun kv' _ => xs[d].ctors.length - (intOf kv').toNat)
      case atStart => exact ⟨0, _, [], Nat.zero_le _, rfl, KD9, (show Own _ _ _ _ _ (ktk xs[d].ctors 0) _ _ from Own.nil _ _ _ _ _), Free.nil _, (fun b hb => by cases hb), Chg.refl _ _, hB9, Nat.le_refl _⟩
      case round =>
        clear hB9 KD9
        obtain ⟨k, kv, Fk, hkl, rfl, KD, HOk, HFk, HFkh, HCk, hB, hw9r⟩ := hrel
        obtain ⟨kA, kcap, hkv, hkc1, hkc2⟩ := HOk.out.form
        subst hkv
        have z0 : wr.cell? ⟨w8.heap.size, 0, none⟩ = some (.string xs[d].name) := (KD.out.cell 0).trans (by simp)
        have z1 : wr.cell? ⟨w8.heap.size, 1, none⟩ = some (.slice kA (ktk xs[d].ctors k).length kcap) := (KD.out.cell 1).trans (by simp)
        have zf1 := KD.out.frozen 1
        have hkz := KD.out.lt
        have c1 := (hB.cell (p := ⟨b, off + d * 2 + 1, none⟩) hbw).trans c1w
        have hbr : b < wr.heap.size := Nat.lt_of_lt_of_le hbw hB.size
        by_cases hlt : k < xs[d].ctors.length
        · obtain ⟨b2, off2, rfl⟩ := HK.out.ptr (by omega)
          obtain ⟨A3, cap3, G3, hb3, k0, k1, k2, HKT, HG3, hks, hn3, hn4⟩ := ArrKt.rep HK.out HG.out hB k hlt
          have g3 : (0 : Int) ≤ (k : Int) := by omega
          have g4 : (k : Int) < (xs[d].ctors.length : Int) := by omega
          have hal : xs[d].ctors[k].args.length ≤ 100 := (HSM.out _ (List.getElem_mem hdl)).2 _ (List.getElem_mem hlt)
          have hkk := ktk_len xs[d].ctors k
          have harg : Arr w (TyR w) xs[d].ctors[k].args (.slice A3 xs[d].ctors[k].args.length cap3) G3 := by
            obtain ⟨kv, hkv, ha, -⟩ := HKT.out
            have : kv = .slice A3 xs[d].ctors[k].args.length cap3 := by simpa using (List.cons.inj (List.cons.inj hkv).2).1.symm
            rw [← this]; exact ha
          have ha1 : Below wr.heap.size wr (wr.alloc (.cells #[.string xs[d].ctors[k].name, .slice A3 xs[d].ctors[k].args.length cap3, .int .i64 xs[d].ctors[k].idx] 126)) := (Below.refl _ _).alloc (Nat.le_refl _) _
          have ha2 : Below wr.heap.size wr ((wr.alloc (.cells #[.string xs[d].ctors[k].name, .slice A3 xs[d].ctors[k].args.length cap3, .int .i64 xs[d].ctors[k].idx] 126)).alloc (.cells #[] 36)) := ha1.alloc ha1.size _
          have hos : Own ((wr.alloc (.cells #[.string xs[d].ctors[k].name, .slice A3 xs[d].ctors[k].args.length cap3, .int .i64 xs[d].ctors[k].idx] 126)).alloc (.cells #[] 36)) 0 36 2 TyR ([] : List Ty) (.slice (some ⟨wr.heap.size + 1, 0, none⟩) 0 0) [] := by
            have h := Own.made (wr.alloc (.cells #[.string xs[d].ctors[k].name, .slice A3 xs[d].ctors[k].args.length cap3, .int .i64 xs[d].ctors[k].idx] 126)) 0 36 2 TyR #[] 0 (Nat.zero_le _) (by simp [maxLen]) rfl
            rwa [World.size_alloc] at h
          have hKC : Blk ((wr.alloc (.cells #[.string xs[d].ctors[k].name, .slice A3 xs[d].ctors[k].args.length cap3, .int .i64 xs[d].ctors[k].idx] 126)).alloc (.cells #[] 36)) wr.heap.size 126 #[.string xs[d].ctors[k].name, .slice A3 xs[d].ctors[k].args.length cap3, .int .i64 xs[d].ctors[k].idx] := (Blk.new wr _ _).same (Below.heap_alloc _ _ _ (by simp))
          have hsz2 : ((wr.alloc (.cells #[.string xs[d].ctors[k].name, .slice A3 xs[d].ctors[k].args.length cap3, .int .i64 xs[d].ctors[k].idx] 126)).alloc (.cells #[] 36)).heap.size = wr.heap.size + 2 := by simp
          have hAB := ArrTy.below harg (hB.trans (ha2.mono hB.size)) HG3.out
          obtain ⟨v', wc, hrun, hoc, hgc, hrc⟩ := run_append_whole (P := Try.prog) (R := TyR ((wr.alloc (.cells #[.string xs[d].ctors[k].name, .slice A3 xs[d].ctors[k].args.length cap3, .int .i64 xs[d].ctors[k].idx] 126)).alloc (.cells #[] 36))) (RR := TyR) (B := 0) (k := 2) (E := 36) 40 40 j0 _ 16 Try.underlying40 HJ.out HJ0.out HJ1.out HJ2.out rfl (by decide) (fun x cs G h => TyR_len x cs G h) (fun x cs G h => TyR_one _ x cs G h) (fun w' x cs G h => ⟨h.1, rfl⟩) hos hAB (by omega) (by omega) (Nat.zero_le _)
          obtain ⟨vA, vcap, hv', hvc1, hvc2⟩ := hoc.form
          subst hv'
          generalize hwb : ((wr.alloc (.cells #[.string xs[d].ctors[k].name, .slice A3 xs[d].ctors[k].args.length cap3, .int .i64 xs[d].ctors[k].idx] 126)).alloc (.cells #[] 36)) = wb at *
          have kb1 : wb.cell? ⟨wr.heap.size, 1, none⟩ = some (.slice A3 xs[d].ctors[k].args.length cap3) := (hKC.cell 1).trans (by simp)
          have hKCc : Blk wc wr.heap.size 126 #[.string xs[d].ctors[k].name, .slice A3 xs[d].ctors[k].args.length cap3, .int .i64 xs[d].ctors[k].idx] := hKC.same (hgc.block _ (by omega) (fun e => by injection e; omega))
          have hbc : Below wr.heap.size wr wc := ha2.grown hgc (by omega) (fun g hg => by injection hg; omega)
          have hcz : wb.heap.size ≤ wc.heap.size := hgc.size
          have hrw : ∀ x ∈ rowOf (.slice vA xs[d].ctors[k].args.length vcap), wr.heap.size + 1 ≤ x := fun x hx => by rcases hrc x hx with h | h <;> omega
          have hx1 : wc.cell? ⟨w8.heap.size, 1, none⟩ = some (.slice kA (ktk xs[d].ctors k).length kcap) := (hbc.cell hkz).trans z1
          have hxf : wc.frozen? ⟨w8.heap.size, 1, none⟩ = false := (hbc.frozen hkz).trans zf1
          have y0 : wc.cell? ⟨wr.heap.size, 0, none⟩ = some (.string xs[d].ctors[k].name) := (hKCc.cell 0).trans (by simp)
          have y1 : wc.cell? ⟨wr.heap.size, 1, none⟩ = some (.slice A3 xs[d].ctors[k].args.length cap3) := (hKCc.cell 1).trans (by simp)
          have y2 : wc.cell? ⟨wr.heap.size, 2, none⟩ = some (.int .i64 xs[d].ctors[k].idx) := (hKCc.cell 2).trans (by simp)
          have yf1 := hKCc.frozen 1
          have hne : wr.heap.size ≠ w8.heap.size := by omega
          have hcs : wr.heap.size < wc.heap.size := hKCc.lt
          have hBu : Hid (Below wr.heap.size wr (wc.setCell ⟨wr.heap.size, 1, none⟩ (.slice vA xs[d].ctors[k].args.length vcap))) := hbc.setCell (Nat.le_refl _) _
          have hod := Own.set (j := 1) (b := wr.heap.size) TyR_mono' hoc (.slice vA xs[d].ctors[k].args.length vcap) (fun h => by have := hrw _ h; omega) (fun h => by cases h)
          have hrd := hod.row
          have HKO : Hid (KtO (wc.setCell ⟨wr.heap.size, 1, none⟩ (.slice vA xs[d].ctors[k].args.length vcap)) xs[d].ctors[k] [.string xs[d].ctors[k].name, .slice vA xs[d].ctors[k].args.length vcap, .int .i64 xs[d].ctors[k].idx] (rowOf (.slice vA xs[d].ctors[k].args.length vcap))) := ⟨_, rfl, hod, rfl, hks⟩
          have HfrA := Lib.hid hod.free_row
          have HfsA : Hid (∀ b ∈ rowOf (.slice vA xs[d].ctors[k].args.length vcap), wr.heap.size ≤ b ∧ b < (wc.setCell ⟨wr.heap.size, 1, none⟩ (.slice vA xs[d].ctors[k].args.length vcap)).heap.size) := fun b hb => ⟨by have := hrw b hb; omega, (hrd b hb).2⟩
          have HOA : Hid (Own (wc.setCell ⟨wr.heap.size, 1, none⟩ (.slice vA xs[d].ctors[k].args.length vcap)) (w8.heap.size + 1) 126 3 KtO (ktk xs[d].ctors k) (.slice kA (ktk xs[d].ctors k).length kcap) Fk) := HOk.out.below (fun x cs G hk h => KtO_mono _ _ x cs G hk h) hBu.out
          have HF2 := Lib.hid (ktk_succ xs[d].ctors k hlt)
          have HRUN := Lib.hid hrun
          have hbs2 : w8.heap.size + 1 ≤ (wc.setCell ⟨wr.heap.size, 1, none⟩ (.slice vA xs[d].ctors[k].args.length vcap)).heap.size := by have := hBu.out.size; omega
          clear hrun hod hrd hrw hrc hoc hgc hbc hKC hKCc ha1 ha2 hos hAB harg
          go_wp2_with (at_builtin; refine Halt.mk ?_)
          try rw [hwb]
          refine Halt.of (wpList_append_run rfl _ _ 40 rfl (by rfl) (by rfl) HRUN.out ?_)
          go_wp2_with (at_builtin; refine Halt.mk ?_)
          refine Halt.of (wpList_push1 (P := Try.prog) rfl _ _ 120 rfl i0 _ 48 Try.underlying120 HI.out HZ0.out HZ1.out HZ2.out rfl (by decide) KtO_len KtO_mono (by rfl) HOA.out xs[d].ctors[k] 126 [.string xs[d].ctors[k].name, .slice vA xs[d].ctors[k].args.length vcap, .int .i64 xs[d].ctors[k].idx] (rowOf (.slice vA xs[d].ctors[k].args.length vcap)) wc.heap.size (by rfl) (by simp [World.setCell]) (by simp [Value.oneCell']) HKO.out (fun b hb => (HfsA.out b hb).2) (fun g hg hG => Nat.lt_irrefl _ (Nat.lt_of_lt_of_le (HOk.out.row g hg).2 (HfsA.out g hG).1)) (by unfold maxLen; omega) (by omega) hbs2 ?_)
          intro g cp w7 hown7 hgr7 hat7
          have z71 : w7.cell? ⟨w8.heap.size, 1, none⟩ = some (.slice kA (ktk xs[d].ctors k).length kcap) := (World.cell?_of_block (a := ⟨w8.heap.size, 1, none⟩) (grow_old HOk.out hBu.out hgr7 (Nat.lt_succ_self _) hkz)).trans z1
          have zf71 : w7.frozen? ⟨w8.heap.size, 1, none⟩ = false := (World.frozen?_of_block (a := ⟨w8.heap.size, 1, none⟩) (grow_old HOk.out hBu.out hgr7 (Nat.lt_succ_self _) hkz)).trans zf1
          obtain ⟨r1, r2, r3, r4, r5, r6, r7⟩ := grow_round KtO_mono hw9s KD.out HOk.out HFk.out HFkh.out HCk.out hB hHD8 (Nat.le_refl _) hBu.out HfrA.out HfsA.out hown7 hgr7
          have R1 := Lib.hid r1
          have R2 := Lib.hid r2
          have R3 := Lib.hid r3
          have R4 := Lib.hid r4
          have R5 := Lib.hid r5
          have R6 := Lib.hid r6
          clear r1 r2 r3 r4 r5 r6 hown7 hgr7 hat7
          go_wp2
          go_roundw
          case rel => exact ⟨k + 1, _, _, hlt, by go_num, R1, by rw [HF2.out]; exact R2.out, R3, R4, R5, R6.out, r7⟩
          case measure => (simp [intOf] <;> omega)
        · have HF2 := Lib.hid (dtk_succ xs d hdl)
          have hOr : Hid (Own wr w.heap.size 122 2 DtO (dtk xs d) u3 Fo) := Own.mono (w := w9) (fun x cs G hk h => DtO_mono _ _ x cs G hk h) HO9.out (HCk.out.kept (fun b hb => by have := HB8.out b hb; omega) (fun b hb => by have := HB8.out b hb; simp; omega)) HCk.out.size
          have hFrr : Hid (Free wr Fo) := HFr9.out.kept (HCk.out.kept (fun b hb => by have := HB8.out b (List.mem_append.2 (.inr hb)); omega) (fun b hb => by have := HB8.out b (List.mem_append.2 (.inr hb)); simp; omega))
          have hw18 : w1.heap.size ≤ w8.heap.size := hwr
          have hCr : Hid (Chg [w.heap.size] w1 wr) := HC9.out.trans_new HCk.out hw18
          have hka : ktk xs[d].ctors k = xs[d].ctors := ktk_all _ (by omega)
          have harr := HOk.out.arr
          have hfree := HOk.out.free HFk.out
          have hrk := HOk.out.row
          have hff : ∀ b ∈ (if ktk xs[d].ctors k = [] then [] else rowOf (.slice kA (ktk xs[d].ctors k).length kcap) ++ Fk), w8.heap.size + 1 ≤ b ∧ b < wr.heap.size := fun b hb => by
            split at hb
            · cases hb
            · rcases List.mem_append.1 hb with h | h
              · exact hrk b h
              · exact ⟨HFkh.out b h, HOk.out.under b h⟩
          generalize (if ktk xs[d].ctors k = [] then [] else rowOf (.slice kA (ktk xs[d].ctors k).length kcap) ++ Fk) = FF at harr hfree hff
          have HFF := Lib.hid hff
          have HFREE := Lib.hid hfree
          have HDX : Hid (DtO wr xs[d] [.string xs[d].name, .slice kA (ktk xs[d].ctors k).length kcap] FF) := ⟨_, rfl, by rw [hka] at harr ⊢; exact harr, hns⟩
          have hbs : w.heap.size ≤ wr.heap.size := hB.size
          clear harr hfree hrk hff HOk HFk HFkh HO9 HFr9 HC9 hka
          go_wp2_with (at_builtin; refine Halt.mk ?_)
          refine Halt.of (wpList_push1 (P := Try.prog) rfl _ _ 34 rfl m0 _ 40 Try.underlying34 HM.out HM0.out HM1.out HM2.out rfl (by decide) DtO_len DtO_mono (by rfl) hOr.out xs[d] 122 [.string xs[d].name, .slice kA (ktk xs[d].ctors k).length kcap] FF _ (by rfl) rfl (by simp [Value.oneCell']) HDX.out (fun b hb => (HFF.out b hb).2) (fun g hg hG => by have h1 := HB8.out g (List.mem_append.2 (.inl hg)); have h2 := (HFF.out g hG).1; omega) (by unfold maxLen; omega) (by omega) hbs ?_)
          intro g cp w7 hown7 hgr7 hat7
          obtain ⟨r1, r2, r3, r4, r5, r6⟩ := push_round (n := (dtk xs d).length + 1) (cp := cp) hOr.out hFrr.out HFREE.out HB8.out HFF.out HR.out hCr.out hB (Nat.le_refl _) HFh.out hw18 hgr7 hat7
          have R1 := Lib.hid r1
          have R2 := Lib.hid r2
          have R4 := Lib.hid r4
          have R5 := Lib.hid r5
          have HO7 := Lib.hid hown7
          clear r1 r2 r3 r4 r5 hown7 hgr7 hat7
          go_wp2
          go_roundw
          case rel => exact ⟨d + 1, Fo ++ FF, hdl, by go_num, by rw [HF2.out]; exact HO7.out, R1, R2, R4, R5.out, r6⟩
          case measure => (simp [intOf] <;> omega)
    · have hfin : Own wr w.heap.size 122 2 DtO xs u3 Fo := by
        have h := HO.out
        rw [dtk_all xs (by omega)] at h
        exact h
      have HFin := Lib.hid hfin
      clear hfin HO
      go_wp2
      go_ret
      exact ⟨_, Fo, rfl, hB, HFin.out, HFr.out, fun b hb => by have := HFh.out b hb; omega⟩
end Go.Proofs.Ytgckkiencmickaa

namespace Go.Proofs.Ytgckkiencmickaa
open Go.RowKit

def LitN (w : World) (b : Nat) (ls : List Int) : Prop := b < w.heap.size ∧ Arr w (NatR w) ls (.slice (some ⟨b, 0, none⟩) ls.length ls.length) [b]
theorem LitN.new (w : World) (ls : List Int) (hl : ls.length ≤ 1000) : LitN (w.alloc (.cells (ls.map (Value.int .i64)).toArray 3)) w.heap.size ls := ⟨by simp, lit_nums w ls hl⟩
theorem LitN.chg {w w' : World} {b : Nat} {ls : List Int} {F : List Nat} (h : LitN w b ls) (hc : Chg F w w') (hb : b ∉ F) : LitN w' b ls :=
  ⟨Nat.lt_of_lt_of_le h.1 hc.size, h.2.mono (hc.kept (fun x hx => by rw [List.mem_singleton.1 hx]; exact h.1) (fun x hx => by rw [List.mem_singleton.1 hx]; exact hb)) fun _ _ _ _ _ h => h⟩
theorem LitN.alloc {w : World} {b : Nat} {ls : List Int} (h : LitN w b ls) (o : Obj) : LitN (w.alloc o) b ls := h.chg (F := []) (.of_below ((Below.refl _ _).alloc (Nat.le_refl _) _)) (by simp)
theorem LitN.new2 (w : World) (o : Obj) (ls : List Int) (hl : ls.length ≤ 1000) : LitN ((w.alloc o).alloc (.cells (ls.map (Value.int .i64)).toArray 3)) (w.heap.size + 1) ls := by
  have h := LitN.new (w.alloc o) ls hl
  rwa [World.size_alloc] at h
theorem Chg.alloc {F : List Nat} {w w' : World} (h : Chg F w w') (o : Obj) : Chg F w (w'.alloc o) := h.step ((Below.refl _ _).alloc (Nat.le_refl _) _)
theorem num_at {w : World} {b : Nat} {ls : List Int} (hb : LitN w b ls) (hl1 : 1 ≤ ls.length) (hl2 : ls.length ≤ 1000) (p g : Nat) (h : Rd w g p) (hp : p ≤ 1000000) (hg : b ≠ g) :
    Calls Try.prog 73 #[.pointer (some ⟨g, 0, none⟩), .slice (some ⟨b, 0, none⟩) ls.length ls.length] w fun e w' => ∃ x, e = .returned (.int .i64 x) ∧ Rd w' g (p + 1) ∧ Chg [g] w w' := by
  refine (num_any ls hl1 hl2 p g w h hp _ _ hb.2 (fun x hx => by rw [List.mem_singleton.1 hx]; exact hb.1) (fun e => hg (List.mem_singleton.1 e).symm)).mono ?_
  rintro e w' ⟨x, -, rfl, hR, hC⟩
  exact ⟨x, rfl, hR, hC⟩
theorem Chg.undrewN {F : List Nat} {w w' : World} (h : Chg F w.drew w') : Chg F w w' := ⟨h.os, h.tape, h.output, h.size, h.block⟩

set_option maxRecDepth 100000 in
set_option maxHeartbeats 6400000 in
theorem spec_l1Mutate (p g : Nat) (w : World) (h : Rd w g p) (hp : p ≤ 900000) (xs : List Dt) (v : Value) (F : List Nat) (hx : Arr w (DtR w) xs v F) (hf : Under w.heap.size F) (h0 : 0 < xs.length) (hl : xs.length ≤ 99) (m : Nat) (hm : m ≤ 90) (hs : SmallW m xs) :
    Calls Try.prog 49 #[.pointer (some ⟨g, 0, none⟩), v] w (Mutd g p m xs w) := by
  have hgl := h.lt
  have HR0 := Lib.hid h
  have HCALL := Lib.hid (spec_l1Copy xs w v F hx hf (by omega) (hs.mono (by omega)))
  have HSM := Lib.hid hs
  have HMM := Lib.hid hm
  clear h hx hf hs hm
  obtain ⟨j0, hj, hj0, hj1, hj2⟩ := info_parts info_tyE
  have HJ := Lib.hid hj
  have HJ0 := Lib.hid hj0
  have HJ1 := Lib.hid hj1
  have HJ2 := Lib.hid hj2
  clear hj hj0 hj1 hj2
  obtain ⟨m0, hm, hm0, hm1, hm2⟩ := info_parts info_DtE
  have HM := Lib.hid hm
  have HM0 := Lib.hid hm0
  have HM1 := Lib.hid hm1
  have HM2 := Lib.hid hm2
  clear hm hm0 hm1 hm2
  go_enter Try.func49, Try.ntmps49
  go_wp2_with fail
  refine HCALL.out.mono ?_
  rintro e w1 ⟨v1, F1, rfl, hb1, ho1, hfr1, hfs1⟩
  have hCpy : Cpy g p xs v1 F1 w w1 := ⟨HR0.out.below hb1, Chg.of_below hb1, ho1, hfr1, fun b hb => by have := hfs1 b hb; omega, hgl⟩
  obtain ⟨A1, cap1, rfl, hc1, hc2⟩ := ho1.form
  obtain ⟨FF, ha1, -, -⟩ := hCpy.arr
  obtain ⟨b, off, rfl⟩ := ha1.ptr h0
  have HC1 := Lib.hid hCpy
  clear hCpy ho1 ha1 hb1 hfr1 hfs1 HCALL HR0
  go_wp2_with fail
  refine (pick_any xs.length p g w1 HC1.out.rd (by omega) h0 (by omega)).mono ?_
  rintro e w2 ⟨d, rfl, hd, hR2, hC2⟩
  have HC2 := Lib.hid (HC1.out.step hR2 hC2)
  clear hR2 hC2 HC1
  have g1 : (0 : Int) ≤ (d : Int) := by omega
  have g2 : (d : Int) < (xs.length : Int) := by omega
  obtain ⟨kA, kcap, F2, n0, k0, z0, hb, hbl, hk1, hk2, hdx, hF2, hname, hctors⟩ := HC2.out.data (p := p) h0 HSM.out hd
  clear n0 z0 hb hbl hdx hF2 hname hctors
  cases q0 : ((xs[d].ctors.length : Int) == 0) with
  | true =>
    have HFin := Lib.hid (HC2.out.done (p := p) h0 HSM.out (by omega))
    clear HC2
    go_wp2
    go_ret
    exact HFin.out
  | false =>
    have hk0 : 0 < xs[d].ctors.length := by rw [beq_eq_false_iff_ne] at q0; omega
    have e0 : (0 : Int) < (xs[d].ctors.length : Int) := by omega
    go_wp2_with fail
    refine (pick_any 30 (p + 1) g w2 HC2.out.rd (by omega) (by omega) (by omega)).mono ?_
    rintro e w3 ⟨r, rfl, hr, hR3, hC3⟩
    have HC3 := Lib.hid (HC2.out.step hR3 hC3)
    clear hR3 hC3 HC2 k0 hk1 hk2
    cases c0q : ((r : Int) == 0) with
    | true =>
      go_wp2_with fail
      refine (of_lit [⟨#[73]⟩, ⟨#[]⟩, ⟨#[97]⟩, ⟨#[76, 76]⟩, ⟨#[90]⟩] (by decide) (by decide) (p + 1 + 1) g w3 HC3.out.rd (by omega)).mono ?_
      rintro e w4 ⟨s, hs, rfl, hR4, hC4⟩
      have hsz : s.size ≤ 1000 := by
        have hall : ∀ x ∈ ([⟨#[73]⟩, ⟨#[]⟩, ⟨#[97]⟩, ⟨#[76, 76]⟩, ⟨#[90]⟩] : List ByteArray), x.size ≤ 1000 := by decide
        exact hall s hs
      have HC4 := Lib.hid (HC3.out.step hR4 hC4)
      clear hR4 hC4 HC3 hs
      obtain ⟨kA, kcap, F2, n0, k0, z0, hb, hbl, hk1, hk2, hdx, hF2, hname, hctors⟩ := HC4.out.data (p := p) h0 HSM.out hd
      have f0 := z0 (off + d * 2)
      have HFin := Lib.hid (hname s hsz (by omega))
      clear k0 z0 hb hk1 hk2 hdx hF2 hname hctors HC4
      go_wp2
      go_ret
      exact HFin.out
    | false =>
      cases c1q : ((r : Int) == 1) with
      | true =>
        obtain ⟨kA, kcap, F2, n0, k0, z0, hb, hbl, hk1, hk2, hdx, hF2, hname, hctors⟩ := HC3.out.data (p := p) h0 HSM.out hd
        have f0 : (w3.alloc (.cells #[] 126)).frozen? ⟨b, off + d * 2 + 1, none⟩ = false := (World.frozen?_of_block (a := ⟨b, off + d * 2 + 1, none⟩) (Below.heap_alloc _ _ _ hbl)).trans (z0 _)
        have y0 : (w3.alloc (.cells #[] 126)).cell? ⟨b, off + d * 2 + 1, none⟩ = some (.slice kA xs[d].ctors.length kcap) := (World.cell?_alloc_lt _ _ _ hbl).trans k0
        have HFin := Lib.hid (hctors 126 (by omega))
        clear n0 k0 z0 hb hk1 hk2 hdx hF2 hname hctors HC3
        go_wp2
        go_ret
        exact HFin.out
      | false =>
        cases c2q : ((r : Int) == 2) with
        | true =>
          have hCd := HC3.out.drew
          clear HC3
          obtain ⟨b2, off2, cap2, aA, acap, kc, hbb, hbg, hb2g, hbl, hb2l, hz2, c0, c1, c2, hown, hrow, hal, H2, H4, H3⟩ := hCd.ctor (p := p) h0 HSM.out hd hk0
          have HH := Lib.hid H2
          have hR3 := Lib.hid hCd.rd
          have f3 := hz2 (off2)
          clear c1 c2 hown hrow hal H2 H4 H3 hCd hz2
          go_wp2_with fail
          refine wp_region_B (S := fun w' => w'.cell? ⟨b, off + d * 2 + 1, none⟩ = some (.slice (some ⟨b2, off2, none⟩) xs[d].ctors.length cap2)) (T := fun _ => True) (d := 10) (by kernel_rfl) ?_
          generalize w3.drew = wd at *
          have hS1 : wd.cell? ⟨b, off + d * 2 + 1, none⟩ = some (.slice (some ⟨b2, off2, none⟩) xs[d].ctors.length cap2) := kc
          have hT1 : True := trivial
          refine wpAnyB_take (i := 0) (v := ?_) rfl (by decide) (by kernel_rfl) (by kernel_rfl) (by kernel_rfl) (fun _ _ _ h => h) (Or.inl ⟨by rfl, ?hy0⟩) hS1 (fun _ => hT1) ?_
          case hy0 => (intro W hSw; (try dsimp only at hSw); go_simp; try with_reducible rfl)
          (try simp only [Act.put, List.setIfInBounds_toArray, List.set_cons_zero, List.set_cons_succ])
          refine wpAnyB_take (i := 1) (v := ?_) rfl (by decide) (by kernel_rfl) (by kernel_rfl) (by kernel_rfl) (fun _ _ _ h => h) (Or.inl ⟨by rfl, ?hy1⟩) hS1 (fun _ => hT1) ?_
          case hy1 => (intro W hSw; (try dsimp only at hSw); go_simp; try with_reducible rfl)
          (try simp only [Act.put, List.setIfInBounds_toArray, List.set_cons_zero, List.set_cons_succ])
          refine wpAnyB_take (i := 2) (v := ?_) rfl (by decide) (by kernel_rfl) (by kernel_rfl) (by kernel_rfl) (fun _ _ _ h => h) (Or.inl ⟨by rfl, ?hy2⟩) hS1 (fun _ => hT1) ?_
          case hy2 => (intro W hSw; (try dsimp only at hSw); go_simp; try with_reducible rfl)
          (try simp only [Act.put, List.setIfInBounds_toArray, List.set_cons_zero, List.set_cons_succ])
          refine wpAnyB_take (i := 3) (v := ?_) rfl (by decide) (by kernel_rfl) (by kernel_rfl) (by kernel_rfl) (fun _ _ _ h => h) (Or.inl ⟨by rfl, ?hy3⟩) hS1 (fun _ => hT1) ?_
          case hy3 => (intro W hSw; (try dsimp only at hSw); go_simp; try with_reducible rfl)
          (try simp only [Act.put, List.setIfInBounds_toArray, List.set_cons_zero, List.set_cons_succ])
          refine wpAnyB_take (i := 4) (v := ?_) rfl (by decide) (by kernel_rfl) (by kernel_rfl) (by kernel_rfl) (fun _ _ _ h => h) (Or.inl ⟨by rfl, ?hy4⟩) hS1 (fun _ => hT1) ?_
          case hy4 => (intro W hSw; (try dsimp only at hSw); go_simp; try with_reducible rfl)
          (try simp only [Act.put, List.setIfInBounds_toArray, List.set_cons_zero, List.set_cons_succ])
          refine wpAnyB_take (i := 5) (v := ?_) rfl (by decide) (by kernel_rfl) (by kernel_rfl) (by kernel_rfl) (fun _ _ _ h => h) (Or.inl ⟨by rfl, ?hy5⟩) hS1 (fun _ => hT1) ?_
          case hy5 => (intro W hSw; (try dsimp only at hSw); go_simp; try with_reducible rfl)
          (try simp only [Act.put, List.setIfInBounds_toArray, List.set_cons_zero, List.set_cons_succ])
          refine wpAnyB_ready (rs := [6]) (by kernel_rfl) (by simp) ?_
          refine AllReadyB.cons rfl (fun K hK => ?_) AllReadyB.nil
          go_simp
          refine hK.out _ _ ((World.cell?_alloc_lt _ _ _ hbl).trans kc) (fun _ => trivial) ?_
          clear hK K
          (try simp only [Act.put, List.setIfInBounds_toArray, List.set_cons_zero, List.set_cons_succ])
          refine wpAnyB_ready (rs := [7]) (by kernel_rfl) (by simp) ?_
          refine AllReadyB.cons rfl (fun K hK => ?_) AllReadyB.nil
          go_simp
          go_at_call 93
          refine (of_lit [⟨#[]⟩, ⟨#[110, 105, 108]⟩, ⟨#[84, 111, 111, 108, 111, 110, 103]⟩, ⟨#[88]⟩] (by decide) (by decide) (p + 1 + 1) g wd hR3.out (by omega)).mono ?_
          rintro e w4 ⟨s, hs, rfl, hR4, hC4⟩
          have hC5 := hC4
          have hsz : s.size ≤ 1000 := by
            have hall : ∀ x ∈ ([⟨#[]⟩, ⟨#[110, 105, 108]⟩, ⟨#[84, 111, 111, 108, 111, 110, 103]⟩, ⟨#[88]⟩] : List ByteArray), x.size ≤ 1000 := by decide
            exact hall s hs
          have hS4 : w4.cell? ⟨b, off + d * 2 + 1, none⟩ = some (.slice (some ⟨b2, off2, none⟩) xs[d].ctors.length cap2) := (hC5.cell hbl hbg).trans kc
          have x4 : w4.cell? ⟨b2, off2, none⟩ = some (.string xs[d].ctors[0].name) := (hC5.cell hb2l hb2g).trans c0
          have f4 : w4.frozen? ⟨b2, off2, none⟩ = false := (World.frozen?_of_block (a := ⟨b2, off2, none⟩) (hC5.block _ hb2l hb2g)).trans f3
          have HFin := Lib.hid (HH.out w4 _ s hR4 hC5 (by omega) hsz)
          dsimp only
          refine hK.out _ _ hS4 (fun _ => trivial) ?_
          clear hK K
          (try simp only [Act.put, List.setIfInBounds_toArray, List.set_cons_zero, List.set_cons_succ])
          refine wpAnyB_take (i := 8) (v := ?_) rfl (by decide) (by kernel_rfl) (by kernel_rfl) (by kernel_rfl) (fun _ _ _ h => h) (Or.inl ⟨by rfl, ?hy8⟩) hS4 (fun _ => hT1) ?_
          case hy8 => (intro W hSw; (try dsimp only at hSw); go_simp; try with_reducible rfl)
          (try simp only [Act.put, List.setIfInBounds_toArray, List.set_cons_zero, List.set_cons_succ])
          refine wpAnyB_take (i := 9) (v := ?_) rfl (by decide) (by kernel_rfl) (by kernel_rfl) (by kernel_rfl) (fun _ _ _ h => h) (Or.inl ⟨by rfl, ?hy9⟩) hS4 (fun _ => hT1) ?_
          case hy9 => (intro W hSw; (try dsimp only at hSw); go_simp; try with_reducible rfl)
          (try simp only [Act.put, List.setIfInBounds_toArray, List.set_cons_zero, List.set_cons_succ])
          refine wpAnyB_ready (rs := [10]) (by kernel_rfl) (by simp) ?_
          refine AllReadyB.cons rfl (fun K hK => ?_) AllReadyB.nil
          go_simp
          refine hK.out _ _ ((World.cell?_setCell_far _ _ _ _ (by show b2 ≠ b; exact fun e => hbb e.symm)).trans hS4) (fun _ => trivial) ?_
          clear hK K
          (try simp only [Act.put, List.setIfInBounds_toArray, List.set_cons_zero, List.set_cons_succ])
          refine wpAnyB_end (by kernel_rfl) ?_
          clear hS1 hT1 hS4 x4 f4 hC5 hC4 hR4 HH hR3 f3 kc c0
          go_wp2
          go_ret
          exact HFin.out
        | false =>
          cases c3q : ((r : Int) == 3) with
          | true =>
            have hCd := HC3.out.drew
            clear HC3
            obtain ⟨b2, off2, cap2, aA, acap, kc, hbb, hbg, hb2g, hbl, hb2l, hz2, c0, c1, c2, hown, hrow, hal, H2, H4, H3⟩ := hCd.ctor (p := p) h0 HSM.out hd hk0
            have HH := Lib.hid H3
            have HRD := Lib.hid hCd.rd
            have f3 := hz2 (off2 + 1)
            have HOWN := Lib.hid hown
            have HROW := Lib.hid hrow
            have hm90 := HMM.out
            have hmx : xs[d].ctors[0].args.length + 1 ≤ maxLen := by unfold maxLen; omega
            have hby : (xs[d].ctors[0].args.length + 1) * 16 ≤ 140737488355328 := by omega
            clear hm90
            have hgl3 : g < w3.drew.heap.size := hCd.rd.lt
            have hgs : w3.drew.heap.size ≠ g := by omega
            have hgs1 : w3.drew.heap.size + 1 ≠ g := by omega
            clear c0 c2 hown hrow H2 H4 H3 hCd hz2
            go_wp2_with fail
            refine wp_region_B (S := fun w' => w'.cell? ⟨b, off + d * 2 + 1, none⟩ = some (.slice (some ⟨b2, off2, none⟩) xs[d].ctors.length cap2)) (T := fun w' => w'.cell? ⟨b2, off2 + 1, none⟩ = some (.slice aA xs[d].ctors[0].args.length acap)) (d := 21) (by kernel_rfl) ?_
            generalize w3.drew = wd at *
            have hS1 : wd.cell? ⟨b, off + d * 2 + 1, none⟩ = some (.slice (some ⟨b2, off2, none⟩) xs[d].ctors.length cap2) := kc
            have hT1 : wd.cell? ⟨b2, off2 + 1, none⟩ = some (.slice aA xs[d].ctors[0].args.length acap) := c1
            refine wpAnyB_take (i := 0) (v := ?_) rfl (by decide) (by kernel_rfl) (by kernel_rfl) (by kernel_rfl) (fun _ _ _ h => h) (Or.inl ⟨by rfl, ?hy0⟩) hS1 (fun _ => hT1) ?_
            case hy0 => (intro W hSw; (try dsimp only at hSw); go_simp; try with_reducible rfl)
            (try simp only [Act.put, List.setIfInBounds_toArray, List.set_cons_zero, List.set_cons_succ])
            refine wpAnyB_take (i := 1) (v := ?_) rfl (by decide) (by kernel_rfl) (by kernel_rfl) (by kernel_rfl) (fun _ _ _ h => h) (Or.inl ⟨by rfl, ?hy1⟩) hS1 (fun _ => hT1) ?_
            case hy1 => (intro W hSw; (try dsimp only at hSw); go_simp; try with_reducible rfl)
            (try simp only [Act.put, List.setIfInBounds_toArray, List.set_cons_zero, List.set_cons_succ])
            refine wpAnyB_take (i := 2) (v := ?_) rfl (by decide) (by kernel_rfl) (by kernel_rfl) (by kernel_rfl) (fun _ _ _ h => h) (Or.inl ⟨by rfl, ?hy2⟩) hS1 (fun _ => hT1) ?_
            case hy2 => (intro W hSw; (try dsimp only at hSw); go_simp; try with_reducible rfl)
            (try simp only [Act.put, List.setIfInBounds_toArray, List.set_cons_zero, List.set_cons_succ])
            refine wpAnyB_take (i := 3) (v := ?_) rfl (by decide) (by kernel_rfl) (by kernel_rfl) (by kernel_rfl) (fun _ _ _ h => h) (Or.inl ⟨by rfl, ?hy3⟩) hS1 (fun _ => hT1) ?_
            case hy3 => (intro W hSw; (try dsimp only at hSw); go_simp; try with_reducible rfl)
            (try simp only [Act.put, List.setIfInBounds_toArray, List.set_cons_zero, List.set_cons_succ])
            refine wpAnyB_take (i := 4) (v := ?_) rfl (by decide) (by kernel_rfl) (by kernel_rfl) (by kernel_rfl) (fun _ _ _ h => h) (Or.inl ⟨by rfl, ?hy4⟩) hS1 (fun _ => hT1) ?_
            case hy4 => (intro W hSw; (try dsimp only at hSw); go_simp; try with_reducible rfl)
            (try simp only [Act.put, List.setIfInBounds_toArray, List.set_cons_zero, List.set_cons_succ])
            refine wpAnyB_take (i := 5) (v := ?_) rfl (by decide) (by kernel_rfl) (by kernel_rfl) (by kernel_rfl) (fun _ _ _ h => h) (Or.inl ⟨by rfl, ?hy5⟩) hS1 (fun _ => hT1) ?_
            case hy5 => (intro W hSw; (try dsimp only at hSw); go_simp; try with_reducible rfl)
            (try simp only [Act.put, List.setIfInBounds_toArray, List.set_cons_zero, List.set_cons_succ])
            refine wpAnyB_take (i := 6) (v := ?_) rfl (by decide) (by kernel_rfl) (by kernel_rfl) (by kernel_rfl) (fun _ _ _ h => h) (Or.inl ⟨by rfl, ?hy6⟩) hS1 (fun _ => hT1) ?_
            case hy6 => (intro W hSw; (try dsimp only at hSw); go_simp; try with_reducible rfl)
            (try simp only [Act.put, List.setIfInBounds_toArray, List.set_cons_zero, List.set_cons_succ])
            refine wpAnyB_take (i := 7) (v := ?_) rfl (by decide) (by kernel_rfl) (by kernel_rfl) (by kernel_rfl) (fun _ _ _ h => h) (Or.inl ⟨by rfl, ?hy7⟩) hS1 (fun _ => hT1) ?_
            case hy7 => (intro W hSw; (try dsimp only at hSw); go_simp; try with_reducible rfl)
            (try simp only [Act.put, List.setIfInBounds_toArray, List.set_cons_zero, List.set_cons_succ])
            refine wpAnyB_take (i := 8) (v := ?_) rfl (by decide) (by kernel_rfl) (by kernel_rfl) (by kernel_rfl) (fun _ _ _ h => h) (Or.inl ⟨by rfl, ?hy8⟩) hS1 (fun _ => hT1) ?_
            case hy8 => (intro W hSw; (try dsimp only at hSw); go_simp; try with_reducible rfl)
            (try simp only [Act.put, List.setIfInBounds_toArray, List.set_cons_zero, List.set_cons_succ])
            refine wpAnyB_take (i := 9) (v := ?_) rfl (by decide) (by kernel_rfl) (by kernel_rfl) (by kernel_rfl) (fun _ _ _ h => h) (Or.inl ⟨by rfl, ?hy9⟩) hS1 (fun _ => hT1) ?_
            case hy9 => (intro W hSw; (try dsimp only at hSw); go_simp; try with_reducible rfl)
            (try simp only [Act.put, List.setIfInBounds_toArray, List.set_cons_zero, List.set_cons_succ])
            refine wpAnyB_take (i := 10) (v := ?_) rfl (by decide) (by kernel_rfl) (by kernel_rfl) (by kernel_rfl) (fun _ _ _ h => h) (Or.inl ⟨by rfl, ?hy10⟩) hS1 (fun _ => hT1) ?_
            case hy10 => (intro W hSw; (try dsimp only at hSw); go_simp; try with_reducible rfl)
            (try simp only [Act.put, List.setIfInBounds_toArray, List.set_cons_zero, List.set_cons_succ])
            refine wpAnyB_take (i := 11) (v := ?_) rfl (by decide) (by kernel_rfl) (by kernel_rfl) (by kernel_rfl) (fun _ _ _ h => h) (Or.inl ⟨by rfl, ?hy11⟩) hS1 (fun _ => hT1) ?_
            case hy11 => (intro W hSw; (try dsimp only at hSw); go_simp; try with_reducible rfl)
            (try simp only [Act.put, List.setIfInBounds_toArray, List.set_cons_zero, List.set_cons_succ])
            refine wpAnyB_takeB (i := 12) (v := ?_) rfl (by decide) rfl (by kernel_rfl) (by kernel_rfl) (by kernel_rfl) (by kernel_rfl) (fun _ _ _ h => h) (Or.inl ⟨by rfl, ?hy12⟩) (by rfl) hS1 hT1 ?_
            case hy12 => (intro W hSw; (try dsimp only at hSw); go_simp; try with_reducible rfl)
            (try simp only [Act.put, List.setIfInBounds_toArray, List.set_cons_zero, List.set_cons_succ])
            refine wpAnyB_take (i := 13) (v := ?_) rfl (by decide) (by kernel_rfl) (by kernel_rfl) (by kernel_rfl) (fun _ _ _ h => h) (Or.inl ⟨by rfl, ?hy13⟩) hS1 (fun _ => hT1) ?_
            case hy13 => (intro W hSw; (try dsimp only at hSw); go_simp; try with_reducible rfl)
            (try simp only [Act.put, List.setIfInBounds_toArray, List.set_cons_zero, List.set_cons_succ])
            refine wpAnyB_take (i := 16) (v := ?_) rfl (by decide) (by kernel_rfl) (by kernel_rfl) (by kernel_rfl) (fun _ _ _ h => h) (Or.inl ⟨by rfl, ?hy16⟩) hS1 (fun _ => hT1) ?_
            case hy16 => (intro W hSw; (try dsimp only at hSw); go_simp; try with_reducible rfl)
            (try simp only [Act.put, List.setIfInBounds_toArray, List.set_cons_zero, List.set_cons_succ])
            refine wpAnyB_ready (rs := [14, 17]) (by kernel_rfl) (by simp) ?_
            refine AllReadyB.cons rfl (fun K hK => ?_) (AllReadyB.cons rfl (fun K hK => ?_) AllReadyB.nil)
            · go_simp
              refine hK.out _ _ (((Chg.refl [g] wd).alloc _).cell hbl hbg |>.trans kc) (fun _ => ((Chg.refl [g] wd).alloc _).cell hb2l hb2g |>.trans c1) ?_
              clear hK K
              (try simp only [Act.put, List.setIfInBounds_toArray, List.set_cons_zero, List.set_cons_succ])
              refine wpAnyB_ready (rs := [15, 17]) (by kernel_rfl) (by simp) ?_
              refine AllReadyB.cons rfl (fun K hK => ?_) (AllReadyB.cons rfl (fun K hK => ?_) AllReadyB.nil)
              · go_simp
                go_at_call 73
                refine (num_at (LitN.new wd [9, -2, 0, -1] (by decide)) (by decide) (by decide) (p + 1 + 1) g (HRD.out.below ((Below.refl _ _).alloc (Nat.le_refl _) _)) (by omega) hgs).mono ?_
                rintro e w5 ⟨x, rfl, hRw5, hCw5⟩
                have hC5 : Chg [g] wd w5 := ((Chg.refl [g] wd).alloc _).trans hCw5
                dsimp only
                refine hK.out _ _ (((hC5).cell hbl hbg).trans kc) (fun _ => ((hC5).cell hb2l hb2g).trans c1) ?_
                clear hK K
                (try simp only [Act.put, List.setIfInBounds_toArray, List.set_cons_zero, List.set_cons_succ])
                refine wpAnyB_ready (rs := [17]) (by kernel_rfl) (by simp) ?_
                refine AllReadyB.cons rfl (fun K hK => ?_) AllReadyB.nil
                go_simp
                refine hK.out _ _ (((hC5).alloc _).cell hbl hbg |>.trans kc) (fun _ => ((hC5).alloc _).cell hb2l hb2g |>.trans c1) ?_
                clear hK K
                (try simp only [Act.put, List.setIfInBounds_toArray, List.set_cons_zero, List.set_cons_succ])
                refine wpAnyB_ready (rs := [18]) (by kernel_rfl) (by simp) ?_
                refine AllReadyB.cons rfl (fun K hK => ?_) AllReadyB.nil
                go_simp
                go_at_call 73
                refine (num_at (LitN.new w5 [0, 4, -1, -2] (by decide)) (by decide) (by decide) (p + 1 + 1 + 1) g (hRw5.below ((Below.refl _ _).alloc (Nat.le_refl _) _)) (by omega) (by have := hC5.size; omega)).mono ?_
                rintro e w6 ⟨y, rfl, hRw6, hCw6⟩
                have hC6 : Chg [g] wd w6 := (hC5.alloc _).trans hCw6
                have hSE : w6.cell? ⟨b, off + d * 2 + 1, none⟩ = some (.slice (some ⟨b2, off2, none⟩) xs[d].ctors.length cap2) := ((hC6).cell hbl hbg).trans kc
                have hTE : w6.cell? ⟨b2, off2 + 1, none⟩ = some (.slice aA xs[d].ctors[0].args.length acap) := ((hC6).cell hb2l hb2g).trans c1
                have HOE : Hid (Own w6 0 36 2 TyR xs[d].ctors[0].args (.slice aA xs[d].ctors[0].args.length acap) []) := HOWN.out.mono0 (w' := w6) (fun x cs G (h : TyR wd x cs G) => (h : TyR w6 x cs G)) ((hC6).kept (fun x hx => (HROW.out x hx).2.2.2) (fun x hx => (HROW.out x hx).1))
                have hzE : wd.heap.size ≤ w6.heap.size := (hC6).size
                have hfE : w6.frozen? ⟨b2, off2 + 1, none⟩ = false := (World.frozen?_of_block (a := ⟨b2, off2 + 1, none⟩) ((hC6).block _ hb2l hb2g)).trans f3
                have hFinE := HH.out w6 (p + 1 + 1 + 1 + 1) ⟨x, y⟩
                have HFE := Lib.hid (fun g' c' w3' o => hFinE g' c' w3' o hRw6 (hC6) (by omega))
                clear hFinE
                dsimp only
                refine hK.out _ _ hSE (fun _ => hTE) ?_
                clear hK K
                (try simp only [Act.put, List.setIfInBounds_toArray, List.set_cons_zero, List.set_cons_succ])
                refine wpAnyB_take (i := 19) (v := ?_) rfl (by decide) (by kernel_rfl) (by kernel_rfl) (by kernel_rfl) (fun _ _ _ h => h) (Or.inl ⟨by rfl, ?hy19⟩) hSE (fun _ => hTE) ?_
                case hy19 => (intro W hSw; (try dsimp only at hSw); go_simp; try with_reducible rfl)
                (try simp only [Act.put, List.setIfInBounds_toArray, List.set_cons_zero, List.set_cons_succ])
                refine wpAnyB_ready (rs := [20]) (by kernel_rfl) (by simp) ?_
                refine AllReadyB.cons rfl (fun K hK => ?_) AllReadyB.nil
                go_simp
                refine hK.out _ _ ((World.cell?_alloc_lt _ _ _ (Nat.lt_of_lt_of_le hbl hzE)).trans hSE) (fun _ => (World.cell?_alloc_lt _ _ _ (Nat.lt_of_lt_of_le hb2l hzE)).trans hTE) ?_
                clear hK K
                (try simp only [Act.put, List.setIfInBounds_toArray, List.set_cons_zero, List.set_cons_succ])
                refine wpAnyB_ready (rs := [21]) (by kernel_rfl) (by simp) ?_
                refine AllReadyB.cons rfl (fun K hK => ?_) AllReadyB.nil
                refine step_push1 (P := Try.prog) rfl _ _ 40 rfl j0 _ 16 Try.underlying40 HJ.out HJ0.out HJ1.out HJ2.out rfl (by decide) TyR_len' TyR_mono' (by rfl) HOE.out ⟨x, y⟩ 36 [.int .i64 x, .int .i64 y] [] _ (by rfl) rfl (by simp [Value.oneCell']) ⟨rfl, rfl⟩ (Under.nil _) (fun _ _ h => by cases h) hmx hby (Nat.zero_le _) ?_
                intro g' cp w7 hown7 hgr7 hat7
                have nb : some b ≠ (Value.slice aA xs[d].ctors[0].args.length acap).ownBlock := fun e => (HROW.out b (mem_rowOf.2 e.symm)).2.1 rfl
                have nb2 : some b2 ≠ (Value.slice aA xs[d].ctors[0].args.length acap).ownBlock := fun e => (HROW.out b2 (mem_rowOf.2 e.symm)).2.2.1 rfl
                have l7 : w6.heap.size ≤ (w6.alloc (.cells #[.int .i64 x, .int .i64 y] 36)).heap.size := by rw [World.size_alloc]; exact Nat.le_succ _
                have l8 : b < w6.heap.size := Nat.lt_of_lt_of_le hbl hzE
                have l9 : b2 < w6.heap.size := Nat.lt_of_lt_of_le hb2l hzE
                have s7 : w7.cell? ⟨b, off + d * 2 + 1, none⟩ = some (.slice (some ⟨b2, off2, none⟩) xs[d].ctors.length cap2) := (World.grownBy.cell_far hgr7 ⟨b, off + d * 2 + 1, none⟩ (Nat.lt_of_lt_of_le l8 l7) nb).trans ((World.cell?_alloc_lt _ _ _ l8).trans hSE)
                have t7 : w7.cell? ⟨b2, off2 + 1, none⟩ = some (.slice aA xs[d].ctors[0].args.length acap) := (World.grownBy.cell_far hgr7 ⟨b2, off2 + 1, none⟩ (Nat.lt_of_lt_of_le l9 l7) nb2).trans ((World.cell?_alloc_lt _ _ _ l9).trans hTE)
                have f7 : w7.frozen? ⟨b2, off2 + 1, none⟩ = false := (World.grownBy.frozen_far hgr7 ⟨b2, off2 + 1, none⟩ (Nat.lt_of_lt_of_le l9 l7) nb2).trans (Eq.trans (World.frozen?_of_block (Below.heap_alloc _ _ _ l9)) hfE)
                have HFin := Lib.hid (HFE.out g' cp w7 _ hown7 hgr7 hat7)
                refine hK.out _ _ s7 (fun _ => t7) ?_
                clear hK K
                (try simp only [Act.put, List.setIfInBounds_toArray, List.set_cons_zero, List.set_cons_succ])
                refine wpAnyB_take (i := 22) (v := ?_) rfl (by decide) (by kernel_rfl) (by kernel_rfl) (by kernel_rfl) (fun _ _ _ h => h) (Or.inl ⟨by rfl, ?hy22⟩) s7 (fun _ => t7) ?_
                case hy22 => (intro W hSw; (try dsimp only at hSw); go_simp; try with_reducible rfl)
                (try simp only [Act.put, List.setIfInBounds_toArray, List.set_cons_zero, List.set_cons_succ])
                refine wpAnyB_take (i := 23) (v := ?_) rfl (by decide) (by kernel_rfl) (by kernel_rfl) (by kernel_rfl) (fun _ _ _ h => h) (Or.inl ⟨by rfl, ?hy23⟩) s7 (fun _ => t7) ?_
                case hy23 => (intro W hSw; (try dsimp only at hSw); go_simp; try with_reducible rfl)
                (try simp only [Act.put, List.setIfInBounds_toArray, List.set_cons_zero, List.set_cons_succ])
                refine wpAnyB_ready (rs := [24]) (by kernel_rfl) (by simp) ?_
                refine AllReadyB.cons rfl (fun K hK => ?_) AllReadyB.nil
                go_simp
                refine hK.out _ _ ((World.cell?_setCell_far _ _ _ _ (by show b2 ≠ b; exact fun e => hbb e.symm)).trans s7) (fun h => by cases h) ?_
                clear hK K
                (try simp only [Act.put, List.setIfInBounds_toArray, List.set_cons_zero, List.set_cons_succ])
                refine wpAnyB_end (by kernel_rfl) ?_
                clear hS1 hT1 hSE hTE HOE hzE hfE HFE nb nb2 l7 l8 l9 s7 t7 f7 hown7 hgr7 hat7 HH HOWN HROW f3 kc c1 hmx hby
                go_wp2
                go_ret
                exact HFin.out
              · go_simp
                refine hK.out _ _ ((((Chg.refl [g] wd).alloc _).alloc _).cell hbl hbg |>.trans kc) (fun _ => (((Chg.refl [g] wd).alloc _).alloc _).cell hb2l hb2g |>.trans c1) ?_
                clear hK K
                (try simp only [Act.put, List.setIfInBounds_toArray, List.set_cons_zero, List.set_cons_succ])
                refine wpAnyB_ready (rs := [15]) (by kernel_rfl) (by simp) ?_
                refine AllReadyB.cons rfl (fun K hK => ?_) AllReadyB.nil
                go_simp
                go_at_call 73
                refine (num_at ((LitN.new wd [9, -2, 0, -1] (by decide)).alloc _) (by decide) (by decide) (p + 1 + 1) g ((HRD.out.below ((Below.refl _ _).alloc (Nat.le_refl _) _)).below ((Below.refl _ _).alloc (Nat.le_refl _) _)) (by omega) hgs).mono ?_
                rintro e w5 ⟨x, rfl, hRw5, hCw5⟩
                have hC5 : Chg [g] wd w5 := (((Chg.refl [g] wd).alloc _).alloc _).trans hCw5
                have hLB : LitN w5 (wd.heap.size + 1) [0, 4, -1, -2] := (LitN.new2 wd _ [0, 4, -1, -2] (by decide)).chg hCw5 (by rw [List.mem_singleton]; exact hgs1)
                dsimp only
                refine hK.out _ _ (((hC5).cell hbl hbg).trans kc) (fun _ => ((hC5).cell hb2l hb2g).trans c1) ?_
                clear hK K
                (try simp only [Act.put, List.setIfInBounds_toArray, List.set_cons_zero, List.set_cons_succ])
                refine wpAnyB_ready (rs := [18]) (by kernel_rfl) (by simp) ?_
                refine AllReadyB.cons rfl (fun K hK => ?_) AllReadyB.nil
                go_simp
                go_at_call 73
                refine (num_at hLB (by decide) (by decide) (p + 1 + 1 + 1) g hRw5 (by omega) hgs1).mono ?_
                rintro e w6 ⟨y, rfl, hRw6, hCw6⟩
                have hC6 : Chg [g] wd w6 := hC5.trans hCw6
                have hSE : w6.cell? ⟨b, off + d * 2 + 1, none⟩ = some (.slice (some ⟨b2, off2, none⟩) xs[d].ctors.length cap2) := ((hC6).cell hbl hbg).trans kc
                have hTE : w6.cell? ⟨b2, off2 + 1, none⟩ = some (.slice aA xs[d].ctors[0].args.length acap) := ((hC6).cell hb2l hb2g).trans c1
                have HOE : Hid (Own w6 0 36 2 TyR xs[d].ctors[0].args (.slice aA xs[d].ctors[0].args.length acap) []) := HOWN.out.mono0 (w' := w6) (fun x cs G (h : TyR wd x cs G) => (h : TyR w6 x cs G)) ((hC6).kept (fun x hx => (HROW.out x hx).2.2.2) (fun x hx => (HROW.out x hx).1))
                have hzE : wd.heap.size ≤ w6.heap.size := (hC6).size
                have hfE : w6.frozen? ⟨b2, off2 + 1, none⟩ = false := (World.frozen?_of_block (a := ⟨b2, off2 + 1, none⟩) ((hC6).block _ hb2l hb2g)).trans f3
                have hFinE := HH.out w6 (p + 1 + 1 + 1 + 1) ⟨x, y⟩
                have HFE := Lib.hid (fun g' c' w3' o => hFinE g' c' w3' o hRw6 (hC6) (by omega))
                clear hFinE
                dsimp only
                refine hK.out _ _ hSE (fun _ => hTE) ?_
                clear hK K
                (try simp only [Act.put, List.setIfInBounds_toArray, List.set_cons_zero, List.set_cons_succ])
                refine wpAnyB_take (i := 19) (v := ?_) rfl (by decide) (by kernel_rfl) (by kernel_rfl) (by kernel_rfl) (fun _ _ _ h => h) (Or.inl ⟨by rfl, ?hy19⟩) hSE (fun _ => hTE) ?_
                case hy19 => (intro W hSw; (try dsimp only at hSw); go_simp; try with_reducible rfl)
                (try simp only [Act.put, List.setIfInBounds_toArray, List.set_cons_zero, List.set_cons_succ])
                refine wpAnyB_ready (rs := [20]) (by kernel_rfl) (by simp) ?_
                refine AllReadyB.cons rfl (fun K hK => ?_) AllReadyB.nil
                go_simp
                refine hK.out _ _ ((World.cell?_alloc_lt _ _ _ (Nat.lt_of_lt_of_le hbl hzE)).trans hSE) (fun _ => (World.cell?_alloc_lt _ _ _ (Nat.lt_of_lt_of_le hb2l hzE)).trans hTE) ?_
                clear hK K
                (try simp only [Act.put, List.setIfInBounds_toArray, List.set_cons_zero, List.set_cons_succ])
                refine wpAnyB_ready (rs := [21]) (by kernel_rfl) (by simp) ?_
                refine AllReadyB.cons rfl (fun K hK => ?_) AllReadyB.nil
                refine step_push1 (P := Try.prog) rfl _ _ 40 rfl j0 _ 16 Try.underlying40 HJ.out HJ0.out HJ1.out HJ2.out rfl (by decide) TyR_len' TyR_mono' (by rfl) HOE.out ⟨x, y⟩ 36 [.int .i64 x, .int .i64 y] [] _ (by rfl) rfl (by simp [Value.oneCell']) ⟨rfl, rfl⟩ (Under.nil _) (fun _ _ h => by cases h) hmx hby (Nat.zero_le _) ?_
                intro g' cp w7 hown7 hgr7 hat7
                have nb : some b ≠ (Value.slice aA xs[d].ctors[0].args.length acap).ownBlock := fun e => (HROW.out b (mem_rowOf.2 e.symm)).2.1 rfl
                have nb2 : some b2 ≠ (Value.slice aA xs[d].ctors[0].args.length acap).ownBlock := fun e => (HROW.out b2 (mem_rowOf.2 e.symm)).2.2.1 rfl
                have l7 : w6.heap.size ≤ (w6.alloc (.cells #[.int .i64 x, .int .i64 y] 36)).heap.size := by rw [World.size_alloc]; exact Nat.le_succ _
                have l8 : b < w6.heap.size := Nat.lt_of_lt_of_le hbl hzE
                have l9 : b2 < w6.heap.size := Nat.lt_of_lt_of_le hb2l hzE
                have s7 : w7.cell? ⟨b, off + d * 2 + 1, none⟩ = some (.slice (some ⟨b2, off2, none⟩) xs[d].ctors.length cap2) := (World.grownBy.cell_far hgr7 ⟨b, off + d * 2 + 1, none⟩ (Nat.lt_of_lt_of_le l8 l7) nb).trans ((World.cell?_alloc_lt _ _ _ l8).trans hSE)
                have t7 : w7.cell? ⟨b2, off2 + 1, none⟩ = some (.slice aA xs[d].ctors[0].args.length acap) := (World.grownBy.cell_far hgr7 ⟨b2, off2 + 1, none⟩ (Nat.lt_of_lt_of_le l9 l7) nb2).trans ((World.cell?_alloc_lt _ _ _ l9).trans hTE)
                have f7 : w7.frozen? ⟨b2, off2 + 1, none⟩ = false := (World.grownBy.frozen_far hgr7 ⟨b2, off2 + 1, none⟩ (Nat.lt_of_lt_of_le l9 l7) nb2).trans (Eq.trans (World.frozen?_of_block (Below.heap_alloc _ _ _ l9)) hfE)
                have HFin := Lib.hid (HFE.out g' cp w7 _ hown7 hgr7 hat7)
                refine hK.out _ _ s7 (fun _ => t7) ?_
                clear hK K
                (try simp only [Act.put, List.setIfInBounds_toArray, List.set_cons_zero, List.set_cons_succ])
                refine wpAnyB_take (i := 22) (v := ?_) rfl (by decide) (by kernel_rfl) (by kernel_rfl) (by kernel_rfl) (fun _ _ _ h => h) (Or.inl ⟨by rfl, ?hy22⟩) s7 (fun _ => t7) ?_
                case hy22 => (intro W hSw; (try dsimp only at hSw); go_simp; try with_reducible rfl)
                (try simp only [Act.put, List.setIfInBounds_toArray, List.set_cons_zero, List.set_cons_succ])
                refine wpAnyB_take (i := 23) (v := ?_) rfl (by decide) (by kernel_rfl) (by kernel_rfl) (by kernel_rfl) (fun _ _ _ h => h) (Or.inl ⟨by rfl, ?hy23⟩) s7 (fun _ => t7) ?_
                case hy23 => (intro W hSw; (try dsimp only at hSw); go_simp; try with_reducible rfl)
                (try simp only [Act.put, List.setIfInBounds_toArray, List.set_cons_zero, List.set_cons_succ])
                refine wpAnyB_ready (rs := [24]) (by kernel_rfl) (by simp) ?_
                refine AllReadyB.cons rfl (fun K hK => ?_) AllReadyB.nil
                go_simp
                refine hK.out _ _ ((World.cell?_setCell_far _ _ _ _ (by show b2 ≠ b; exact fun e => hbb e.symm)).trans s7) (fun h => by cases h) ?_
                clear hK K
                (try simp only [Act.put, List.setIfInBounds_toArray, List.set_cons_zero, List.set_cons_succ])
                refine wpAnyB_end (by kernel_rfl) ?_
                clear hS1 hT1 hSE hTE HOE hzE hfE HFE nb nb2 l7 l8 l9 s7 t7 f7 hown7 hgr7 hat7 HH HOWN HROW f3 kc c1 hmx hby
                go_wp2
                go_ret
                exact HFin.out
            · go_simp
              refine hK.out _ _ (((Chg.refl [g] wd).alloc _).cell hbl hbg |>.trans kc) (fun _ => ((Chg.refl [g] wd).alloc _).cell hb2l hb2g |>.trans c1) ?_
              clear hK K
              (try simp only [Act.put, List.setIfInBounds_toArray, List.set_cons_zero, List.set_cons_succ])
              refine wpAnyB_ready (rs := [14]) (by kernel_rfl) (by simp) ?_
              refine AllReadyB.cons rfl (fun K hK => ?_) AllReadyB.nil
              go_simp
              refine hK.out _ _ ((((Chg.refl [g] wd).alloc _).alloc _).cell hbl hbg |>.trans kc) (fun _ => (((Chg.refl [g] wd).alloc _).alloc _).cell hb2l hb2g |>.trans c1) ?_
              clear hK K
              (try simp only [Act.put, List.setIfInBounds_toArray, List.set_cons_zero, List.set_cons_succ])
              refine wpAnyB_ready (rs := [15]) (by kernel_rfl) (by simp) ?_
              refine AllReadyB.cons rfl (fun K hK => ?_) AllReadyB.nil
              go_simp
              go_at_call 73
              refine (num_at (LitN.new2 wd _ [9, -2, 0, -1] (by decide)) (by decide) (by decide) (p + 1 + 1) g ((HRD.out.below ((Below.refl _ _).alloc (Nat.le_refl _) _)).below ((Below.refl _ _).alloc (Nat.le_refl _) _)) (by omega) hgs1).mono ?_
              rintro e w5 ⟨x, rfl, hRw5, hCw5⟩
              have hC5 : Chg [g] wd w5 := (((Chg.refl [g] wd).alloc _).alloc _).trans hCw5
              have hLB : LitN w5 wd.heap.size [0, 4, -1, -2] := ((LitN.new wd [0, 4, -1, -2] (by decide)).alloc _).chg hCw5 (by rw [List.mem_singleton]; exact hgs)
              dsimp only
              refine hK.out _ _ (((hC5).cell hbl hbg).trans kc) (fun _ => ((hC5).cell hb2l hb2g).trans c1) ?_
              clear hK K
              (try simp only [Act.put, List.setIfInBounds_toArray, List.set_cons_zero, List.set_cons_succ])
              refine wpAnyB_ready (rs := [18]) (by kernel_rfl) (by simp) ?_
              refine AllReadyB.cons rfl (fun K hK => ?_) AllReadyB.nil
              go_simp
              go_at_call 73
              refine (num_at hLB (by decide) (by decide) (p + 1 + 1 + 1) g hRw5 (by omega) hgs).mono ?_
              rintro e w6 ⟨y, rfl, hRw6, hCw6⟩
              have hC6 : Chg [g] wd w6 := hC5.trans hCw6
              have hSE : w6.cell? ⟨b, off + d * 2 + 1, none⟩ = some (.slice (some ⟨b2, off2, none⟩) xs[d].ctors.length cap2) := ((hC6).cell hbl hbg).trans kc
              have hTE : w6.cell? ⟨b2, off2 + 1, none⟩ = some (.slice aA xs[d].ctors[0].args.length acap) := ((hC6).cell hb2l hb2g).trans c1
              have HOE : Hid (Own w6 0 36 2 TyR xs[d].ctors[0].args (.slice aA xs[d].ctors[0].args.length acap) []) := HOWN.out.mono0 (w' := w6) (fun x cs G (h : TyR wd x cs G) => (h : TyR w6 x cs G)) ((hC6).kept (fun x hx => (HROW.out x hx).2.2.2) (fun x hx => (HROW.out x hx).1))
              have hzE : wd.heap.size ≤ w6.heap.size := (hC6).size
              have hfE : w6.frozen? ⟨b2, off2 + 1, none⟩ = false := (World.frozen?_of_block (a := ⟨b2, off2 + 1, none⟩) ((hC6).block _ hb2l hb2g)).trans f3
              have hFinE := HH.out w6 (p + 1 + 1 + 1 + 1) ⟨x, y⟩
              have HFE := Lib.hid (fun g' c' w3' o => hFinE g' c' w3' o hRw6 (hC6) (by omega))
              clear hFinE
              dsimp only
              refine hK.out _ _ hSE (fun _ => hTE) ?_
              clear hK K
              (try simp only [Act.put, List.setIfInBounds_toArray, List.set_cons_zero, List.set_cons_succ])
              refine wpAnyB_take (i := 19) (v := ?_) rfl (by decide) (by kernel_rfl) (by kernel_rfl) (by kernel_rfl) (fun _ _ _ h => h) (Or.inl ⟨by rfl, ?hy19⟩) hSE (fun _ => hTE) ?_
              case hy19 => (intro W hSw; (try dsimp only at hSw); go_simp; try with_reducible rfl)
              (try simp only [Act.put, List.setIfInBounds_toArray, List.set_cons_zero, List.set_cons_succ])
              refine wpAnyB_ready (rs := [20]) (by kernel_rfl) (by simp) ?_
              refine AllReadyB.cons rfl (fun K hK => ?_) AllReadyB.nil
              go_simp
              refine hK.out _ _ ((World.cell?_alloc_lt _ _ _ (Nat.lt_of_lt_of_le hbl hzE)).trans hSE) (fun _ => (World.cell?_alloc_lt _ _ _ (Nat.lt_of_lt_of_le hb2l hzE)).trans hTE) ?_
              clear hK K
              (try simp only [Act.put, List.setIfInBounds_toArray, List.set_cons_zero, List.set_cons_succ])
              refine wpAnyB_ready (rs := [21]) (by kernel_rfl) (by simp) ?_
              refine AllReadyB.cons rfl (fun K hK => ?_) AllReadyB.nil
              refine step_push1 (P := Try.prog) rfl _ _ 40 rfl j0 _ 16 Try.underlying40 HJ.out HJ0.out HJ1.out HJ2.out rfl (by decide) TyR_len' TyR_mono' (by rfl) HOE.out ⟨x, y⟩ 36 [.int .i64 x, .int .i64 y] [] _ (by rfl) rfl (by simp [Value.oneCell']) ⟨rfl, rfl⟩ (Under.nil _) (fun _ _ h => by cases h) hmx hby (Nat.zero_le _) ?_
              intro g' cp w7 hown7 hgr7 hat7
              have nb : some b ≠ (Value.slice aA xs[d].ctors[0].args.length acap).ownBlock := fun e => (HROW.out b (mem_rowOf.2 e.symm)).2.1 rfl
              have nb2 : some b2 ≠ (Value.slice aA xs[d].ctors[0].args.length acap).ownBlock := fun e => (HROW.out b2 (mem_rowOf.2 e.symm)).2.2.1 rfl
              have l7 : w6.heap.size ≤ (w6.alloc (.cells #[.int .i64 x, .int .i64 y] 36)).heap.size := by rw [World.size_alloc]; exact Nat.le_succ _
              have l8 : b < w6.heap.size := Nat.lt_of_lt_of_le hbl hzE
              have l9 : b2 < w6.heap.size := Nat.lt_of_lt_of_le hb2l hzE
              have s7 : w7.cell? ⟨b, off + d * 2 + 1, none⟩ = some (.slice (some ⟨b2, off2, none⟩) xs[d].ctors.length cap2) := (World.grownBy.cell_far hgr7 ⟨b, off + d * 2 + 1, none⟩ (Nat.lt_of_lt_of_le l8 l7) nb).trans ((World.cell?_alloc_lt _ _ _ l8).trans hSE)
              have t7 : w7.cell? ⟨b2, off2 + 1, none⟩ = some (.slice aA xs[d].ctors[0].args.length acap) := (World.grownBy.cell_far hgr7 ⟨b2, off2 + 1, none⟩ (Nat.lt_of_lt_of_le l9 l7) nb2).trans ((World.cell?_alloc_lt _ _ _ l9).trans hTE)
              have f7 : w7.frozen? ⟨b2, off2 + 1, none⟩ = false := (World.grownBy.frozen_far hgr7 ⟨b2, off2 + 1, none⟩ (Nat.lt_of_lt_of_le l9 l7) nb2).trans (Eq.trans (World.frozen?_of_block (Below.heap_alloc _ _ _ l9)) hfE)
              have HFin := Lib.hid (HFE.out g' cp w7 _ hown7 hgr7 hat7)
              refine hK.out _ _ s7 (fun _ => t7) ?_
              clear hK K
              (try simp only [Act.put, List.setIfInBounds_toArray, List.set_cons_zero, List.set_cons_succ])
              refine wpAnyB_take (i := 22) (v := ?_) rfl (by decide) (by kernel_rfl) (by kernel_rfl) (by kernel_rfl) (fun _ _ _ h => h) (Or.inl ⟨by rfl, ?hy22⟩) s7 (fun _ => t7) ?_
              case hy22 => (intro W hSw; (try dsimp only at hSw); go_simp; try with_reducible rfl)
              (try simp only [Act.put, List.setIfInBounds_toArray, List.set_cons_zero, List.set_cons_succ])
              refine wpAnyB_take (i := 23) (v := ?_) rfl (by decide) (by kernel_rfl) (by kernel_rfl) (by kernel_rfl) (fun _ _ _ h => h) (Or.inl ⟨by rfl, ?hy23⟩) s7 (fun _ => t7) ?_
              case hy23 => (intro W hSw; (try dsimp only at hSw); go_simp; try with_reducible rfl)
              (try simp only [Act.put, List.setIfInBounds_toArray, List.set_cons_zero, List.set_cons_succ])
              refine wpAnyB_ready (rs := [24]) (by kernel_rfl) (by simp) ?_
              refine AllReadyB.cons rfl (fun K hK => ?_) AllReadyB.nil
              go_simp
              refine hK.out _ _ ((World.cell?_setCell_far _ _ _ _ (by show b2 ≠ b; exact fun e => hbb e.symm)).trans s7) (fun h => by cases h) ?_
              clear hK K
              (try simp only [Act.put, List.setIfInBounds_toArray, List.set_cons_zero, List.set_cons_succ])
              refine wpAnyB_end (by kernel_rfl) ?_
              clear hS1 hT1 hSE hTE HOE hzE hfE HFE nb nb2 l7 l8 l9 s7 t7 f7 hown7 hgr7 hat7 HH HOWN HROW f3 kc c1 hmx hby
              go_wp2
              go_ret
              exact HFin.out
          | false =>
            cases c4q : ((r : Int) == 4) with
            | true =>
              have hCd := HC3.out.drew
              clear HC3
              obtain ⟨b2, off2, cap2, aA, acap, kc, hbb, hbg, hb2g, hbl, hb2l, hz2, c0, c1, c2, hown, hrow, hal, H2, H4, H3⟩ := hCd.ctor (p := p) h0 HSM.out hd hk0
              have HH := Lib.hid H4
              have hR3 := Lib.hid hCd.rd
              have f3 := hz2 (off2 + 2)
              clear c0 c1 hown hrow hal H2 H4 H3 hCd hz2
              go_wp2_with fail
              refine wp_region_B (S := fun w' => w'.cell? ⟨b, off + d * 2 + 1, none⟩ = some (.slice (some ⟨b2, off2, none⟩) xs[d].ctors.length cap2)) (T := fun _ => True) (d := 10) (by kernel_rfl) ?_
              generalize w3.drew = wd at *
              have hS1 : wd.cell? ⟨b, off + d * 2 + 1, none⟩ = some (.slice (some ⟨b2, off2, none⟩) xs[d].ctors.length cap2) := kc
              have hT1 : True := trivial
              refine wpAnyB_take (i := 0) (v := ?_) rfl (by decide) (by kernel_rfl) (by kernel_rfl) (by kernel_rfl) (fun _ _ _ h => h) (Or.inl ⟨by rfl, ?hy0⟩) hS1 (fun _ => hT1) ?_
              case hy0 => (intro W hSw; (try dsimp only at hSw); go_simp; try with_reducible rfl)
              (try simp only [Act.put, List.setIfInBounds_toArray, List.set_cons_zero, List.set_cons_succ])
              refine wpAnyB_take (i := 1) (v := ?_) rfl (by decide) (by kernel_rfl) (by kernel_rfl) (by kernel_rfl) (fun _ _ _ h => h) (Or.inl ⟨by rfl, ?hy1⟩) hS1 (fun _ => hT1) ?_
              case hy1 => (intro W hSw; (try dsimp only at hSw); go_simp; try with_reducible rfl)
              (try simp only [Act.put, List.setIfInBounds_toArray, List.set_cons_zero, List.set_cons_succ])
              refine wpAnyB_take (i := 2) (v := ?_) rfl (by decide) (by kernel_rfl) (by kernel_rfl) (by kernel_rfl) (fun _ _ _ h => h) (Or.inl ⟨by rfl, ?hy2⟩) hS1 (fun _ => hT1) ?_
              case hy2 => (intro W hSw; (try dsimp only at hSw); go_simp; try with_reducible rfl)
              (try simp only [Act.put, List.setIfInBounds_toArray, List.set_cons_zero, List.set_cons_succ])
              refine wpAnyB_take (i := 3) (v := ?_) rfl (by decide) (by kernel_rfl) (by kernel_rfl) (by kernel_rfl) (fun _ _ _ h => h) (Or.inl ⟨by rfl, ?hy3⟩) hS1 (fun _ => hT1) ?_
              case hy3 => (intro W hSw; (try dsimp only at hSw); go_simp; try with_reducible rfl)
              (try simp only [Act.put, List.setIfInBounds_toArray, List.set_cons_zero, List.set_cons_succ])
              refine wpAnyB_take (i := 4) (v := ?_) rfl (by decide) (by kernel_rfl) (by kernel_rfl) (by kernel_rfl) (fun _ _ _ h => h) (Or.inl ⟨by rfl, ?hy4⟩) hS1 (fun _ => hT1) ?_
              case hy4 => (intro W hSw; (try dsimp only at hSw); go_simp; try with_reducible rfl)
              (try simp only [Act.put, List.setIfInBounds_toArray, List.set_cons_zero, List.set_cons_succ])
              refine wpAnyB_take (i := 5) (v := ?_) rfl (by decide) (by kernel_rfl) (by kernel_rfl) (by kernel_rfl) (fun _ _ _ h => h) (Or.inl ⟨by rfl, ?hy5⟩) hS1 (fun _ => hT1) ?_
              case hy5 => (intro W hSw; (try dsimp only at hSw); go_simp; try with_reducible rfl)
              (try simp only [Act.put, List.setIfInBounds_toArray, List.set_cons_zero, List.set_cons_succ])
              refine wpAnyB_ready (rs := [6]) (by kernel_rfl) (by simp) ?_
              refine AllReadyB.cons rfl (fun K hK => ?_) AllReadyB.nil
              go_simp
              refine hK.out _ _ ((World.cell?_alloc_lt _ _ _ hbl).trans kc) (fun _ => trivial) ?_
              clear hK K
              (try simp only [Act.put, List.setIfInBounds_toArray, List.set_cons_zero, List.set_cons_succ])
              refine wpAnyB_ready (rs := [7]) (by kernel_rfl) (by simp) ?_
              refine AllReadyB.cons rfl (fun K hK => ?_) AllReadyB.nil
              go_simp
              go_at_call 73
              refine (num_lit [4, -1, 1] (by decide) (by decide) (p + 1 + 1) g wd hR3.out (by omega)).mono ?_
              rintro e w4 ⟨s, hs, rfl, hR4, hC4⟩
              have hC5 := hC4
              have hS4 : w4.cell? ⟨b, off + d * 2 + 1, none⟩ = some (.slice (some ⟨b2, off2, none⟩) xs[d].ctors.length cap2) := (hC5.cell hbl hbg).trans kc
              have x4 : w4.cell? ⟨b2, off2 + 2, none⟩ = some (.int .i64 xs[d].ctors[0].idx) := (hC5.cell hb2l hb2g).trans c2
              have f4 : w4.frozen? ⟨b2, off2 + 2, none⟩ = false := (World.frozen?_of_block (a := ⟨b2, off2 + 2, none⟩) (hC5.block _ hb2l hb2g)).trans f3
              have HFin := Lib.hid (HH.out w4 _ s hR4 hC5 (by omega))
              dsimp only
              refine hK.out _ _ hS4 (fun _ => trivial) ?_
              clear hK K
              (try simp only [Act.put, List.setIfInBounds_toArray, List.set_cons_zero, List.set_cons_succ])
              refine wpAnyB_take (i := 8) (v := ?_) rfl (by decide) (by kernel_rfl) (by kernel_rfl) (by kernel_rfl) (fun _ _ _ h => h) (Or.inl ⟨by rfl, ?hy8⟩) hS4 (fun _ => hT1) ?_
              case hy8 => (intro W hSw; (try dsimp only at hSw); go_simp; try with_reducible rfl)
              (try simp only [Act.put, List.setIfInBounds_toArray, List.set_cons_zero, List.set_cons_succ])
              refine wpAnyB_take (i := 9) (v := ?_) rfl (by decide) (by kernel_rfl) (by kernel_rfl) (by kernel_rfl) (fun _ _ _ h => h) (Or.inl ⟨by rfl, ?hy9⟩) hS4 (fun _ => hT1) ?_
              case hy9 => (intro W hSw; (try dsimp only at hSw); go_simp; try with_reducible rfl)
              (try simp only [Act.put, List.setIfInBounds_toArray, List.set_cons_zero, List.set_cons_succ])
              refine wpAnyB_ready (rs := [10]) (by kernel_rfl) (by simp) ?_
              refine AllReadyB.cons rfl (fun K hK => ?_) AllReadyB.nil
              go_simp
              refine hK.out _ _ ((World.cell?_setCell_far _ _ _ _ (by show b2 ≠ b; exact fun e => hbb e.symm)).trans hS4) (fun _ => trivial) ?_
              clear hK K
              (try simp only [Act.put, List.setIfInBounds_toArray, List.set_cons_zero, List.set_cons_succ])
              refine wpAnyB_end (by kernel_rfl) ?_
              clear hS1 hT1 hS4 x4 f4 hC5 hC4 hR4 HH hR3 f3 kc c2
              go_wp2
              go_ret
              exact HFin.out
            | false =>
              cases c5q : ((r : Int) == 5) with
              | true =>
                obtain ⟨kA, kcap, F2, n0, k0, z0, hb, hbl, hk1, hk2, hdx, hF2, hname, hctors⟩ := HC3.out.data (p := p) h0 HSM.out hd
                have HDX := Lib.hid hdx
                have HF2 := Lib.hid hF2
                have hbs : w.heap.size ≤ w3.heap.size := HC3.out.chg.size
                clear z0 hdx hF2 hname hctors
                go_wp2_with (at_builtin; refine Halt.mk ?_)
                refine Halt.of (wpList_push1 (P := Try.prog) rfl _ _ 34 rfl m0 _ 40 Try.underlying34 HM.out HM0.out HM1.out HM2.out rfl (by decide) DtO_len DtO_mono (by rfl) HC3.out.own xs[d] 122 [.string xs[d].name, .slice kA xs[d].ctors.length kcap] F2 _ (by rfl) rfl (by simp [Value.oneCell']) HDX.out (fun x hx => (HF2.out x hx).2.2) (fun x hx hG => (HF2.out x hG).1 (by rw [rowOf_some, List.mem_singleton] at hx; exact hx)) (by unfold maxLen; omega) (by omega) hbs ?_)
                intro g' cp w7 hown7 hgr7 hat7
                have HFin := Lib.hid (HC3.out.twice (p := p) h0 HSM.out hd (fun x hx => (HF2.out x hx).2.1) rfl hown7 hgr7 (by omega))
                clear hown7 hgr7 hat7 n0 k0 hk1 hk2 HDX HF2 HC3
                go_wp2
                go_ret
                exact HFin.out
              | false =>
                have HFin := Lib.hid (HC3.out.done (p := p) h0 HSM.out (by omega))
                clear HC3
                go_wp2
                go_ret
                exact HFin.out
end Go.Proofs.Ytgckkiencmickaa

namespace Go.Proofs.Ytgckkiencmickaa
open Go.RowKit

theorem Own.under_any3 {α : Type} {w : World} {B k : Nat} {E : TypeId} {R : World → α → List Value → List Nat → Prop} {vs : List α} {v : Value} {F : List Nat} (h : Own w B E k R vs v F) : Under w.heap.size (if vs = [] then [] else rowOf v ++ F) := by
  by_cases hx : vs = []
  · rw [if_pos hx]; exact Under.nil _
  · rw [if_neg hx]
    intro b hb
    rcases List.mem_append.1 hb with hb | hb
    · exact (h.row b hb).2
    · exact h.under b hb
theorem Own.deeperV {α : Type} {w w' : World} {B k : Nat} {E : TypeId} {R : World → α → List Value → List Nat → Prop} {vs : List α} {v : Value} {F G : List Nat} (hR : ∀ x cs G, Kept G w w' → R w x cs G → R w' x cs G) (h : Own w B E k R vs v F) (hc : Chg G w w') (h1 : ∀ g ∈ rowOf v, g ∉ G) (h2 : ∀ g ∈ F, g ∉ G) : Own w' B E k R vs v F :=
  h.mono hR (hc.kept (fun b hb => by
    rcases List.mem_append.1 hb with h' | h'
    · exact (h.row b h').2
    · exact h.under b h') (fun b hb => by
    rcases List.mem_append.1 hb with h' | h'
    · exact h1 b h'
    · exact h2 b h')) hc.size

theorem Own.headV {w : World} {B : Nat} {E : TypeId} {k : V} {ks : List V} {F : List Nat} {g n cap : Nat} (h : Own w B E 3 VR (k :: ks) (.slice (some ⟨g, 0, none⟩) n cap) F) (new : List Value) (hnew : new.length = 3) (Fn : List Nat) (y : V) (hy : VR w y new Fn) (hfn : Under w.heap.size Fn) (hgn : g ∉ Fn) :
    ∃ F', (∀ b ∈ F', b ∈ F ∨ b ∈ Fn) ∧ Own (putCells w g 0 new) B E 3 VR (y :: ks) (.slice (some ⟨g, 0, none⟩) n cap) F' := by
  obtain ⟨cs, h1, h2, h3, h4⟩ := h
  obtain ⟨c1, c2, F1, F2, rfl, rfl, k1, k2⟩ := h2
  have hl1 : c1.length = 3 := VR_len k c1 F1 k1
  obtain ⟨hlen, hown⟩ := h1
  rcases hown with ⟨hv, -⟩ | ⟨g', cap', cur, hv, hb, hg, hc, hm, hs, ht⟩
  · cases hv
  · cases hv
    simp only [List.length_cons] at hlen hc ht
    have hroom : 0 + new.length ≤ cur.size := by
      rw [hs, hnew]
      have : 1 ≤ cap := by omega
      omega
    obtain ⟨C', g1, g2, g3, g4⟩ := Blk.put new 0 (show Blk w g E cur from hg) hroom
    have hgF : g ∉ F2 := fun hx => h4 g (by simp [rowOf_some]) (List.mem_append.2 (.inr hx))
    have hgr := (putCells_grown g new w 0).1
    have hU2 : Under w.heap.size F2 := h3.sub fun b hb => List.mem_append.2 (.inr hb)
    have hkp : Kept F2 w (putCells w g 0 new) := fun b hb => hgr.block b (hU2 b hb) (fun e => by cases e; exact hgF hb)
    have hkn : Kept Fn w (putCells w g 0 new) := fun b hb => hgr.block b (hfn b hb) (fun e => by cases e; exact hgn hb)
    refine ⟨Fn ++ F2, fun b hb => (List.mem_append.1 hb).elim .inr fun h => .inl (List.mem_append.2 (.inr h)), new ++ c2, ⟨?_, .inr ⟨g, cap, C', rfl, hb, g1, hc, hm, g2.trans hs, ?_⟩⟩, ⟨new, c2, Fn, F2, rfl, rfl, VR.mono y new Fn hkn hy, ?_⟩, fun b hb => (List.mem_append.1 hb).elim (fun h => Nat.lt_of_lt_of_le (hfn b h) hgr.size) (fun h => hU2.mono hgr.size b h), fun x hx hxF => ?_⟩
    · rw [List.length_append] at hlen ⊢
      rw [hnew]; rw [hl1] at hlen; exact hlen
    · apply List.ext_getElem?
      intro j
      have hlt : (C'.toList.take ((ks.length + 1) * 3))[j]? = if j < (ks.length + 1) * 3 then C'[j]? else none := by
        rw [List.getElem?_take]
        simp
      have hlt2 : (cur.toList.take ((ks.length + 1) * 3))[j]? = if j < (ks.length + 1) * 3 then cur[j]? else none := by
        rw [List.getElem?_take]
        simp
      refine hlt.trans ?_
      have hlt2 := (congrArg (fun l => l[j]?) ht).symm.trans hlt2
      by_cases hj : j < 3
      · rw [if_pos (by omega), List.getElem?_append_left (by omega)]
        have := g3 j (by omega)
        rw [Nat.zero_add] at this
        exact this
      · have e1 : (new ++ c2)[j]? = c2[j - 3]? := by rw [List.getElem?_append_right (by omega), hnew]
        have e2 : (c1 ++ c2)[j]? = c2[j - 3]? := by rw [List.getElem?_append_right (by omega), hl1]
        rw [e1, ← e2, hlt2, g4 j (.inr (by omega))]
    · exact k2.mono fun x _ ds H hH hr => VR.mono x ds H (fun b hb => hkp b (hH b hb)) hr
    · rw [rowOf_some, List.mem_singleton] at hx
      subst hx
      exact (List.mem_append.1 hxF).elim hgn hgF
theorem Own.cell0V {w : World} {B : Nat} {E : TypeId} {k : V} {ks : List V} {F : List Nat} {A : Option Addr} {n cap : Nat} (h : Own w B E 3 VR (k :: ks) (.slice A n cap) F) :
    ∃ g C, A = some ⟨g, 0, none⟩ ∧ B ≤ g ∧ Blk w g E C ∧ 3 ≤ C.size := by
  obtain ⟨cs, h1, -⟩ := h
  rcases h1.2 with ⟨hv, hn⟩ | ⟨g', cap', cur, hv, hb, hg, hc, hm, hs, ht⟩
  · simp at hn
  · cases hv
    simp only [List.length_cons] at hc
    exact ⟨g', cur, rfl, hb, hg, by rw [hs]; omega⟩
theorem V.sizes_cons (k : V) (ks : List V) : V.sizes (k :: ks) = nodes k + V.sizes ks := rfl
theorem V.sizes_snoc (l : List V) (x : V) : V.sizes (l ++ [x]) = V.sizes l + nodes x := by
  rw [V.sizes_eq, V.sizes_eq, V.subs_snoc, List.length_append]
  unfold nodes
  simp only [List.length_cons, List.length_nil]
  omega
section
variable {w w0 : World} {H : Nat} {F : List Nat}
theorem chg_three (h : Chg F w0 w) (hH : w0.heap.size ≤ H) (a0 a1 a2 : Value) : Chg F w0 (((w.setCell ⟨H, 0, none⟩ a0).setCell ⟨H, 1, none⟩ a1).setCell ⟨H, 2, none⟩ a2) := ((h.set_new hH).set_new hH).set_new hH
theorem rdb_three {g p : Nat} {bs : List Int} (h : RdB w g bs p) (hg : g < H) (a0 a1 a2 : Value) : RdB (((w.setCell ⟨H, 0, none⟩ a0).setCell ⟨H, 1, none⟩ a1).setCell ⟨H, 2, none⟩ a2) g bs p := h.keep fun b hb => by
  rw [Below.heap_setCell _ _ _ _ (by show b ≠ H; omega), Below.heap_setCell _ _ _ _ (by show b ≠ H; omega), Below.heap_setCell _ _ _ _ (by show b ≠ H; omega)]
end
theorem VR_one' (w : World) (x : V) (cs : List Value) (G : List Nat) (h : VR w x cs G) : ∀ u ∈ cs, u.oneCell' = true := by
  obtain ⟨kv, rfl, ha⟩ := (VR_iff _ _ _).1 h
  obtain ⟨A, cap, rfl, -, -⟩ := ha.form
  simp [Value.oneCell']
end Go.Proofs.Ytgckkiencmickaa

namespace Go.Proofs.Ytgckkiencmickaa
open Go.RowKit

theorem step_append_run {P : Program} {w : World} {ops : Array Oper} {o : Oper} {a : Act} {K : Act → World → Prop} {Q : Exit → Act → World → Prop} {EE : Prop} (hgd : o.guard = none) (s x : Operand) (t : TypeId)
    (ho : o.op = .call { callee := .builtin .append, args := #[s, x], argTypes := #[t, t] }) {sv xv v' : Value} {w' : World} (hs : a.eval s = sv) (hx : a.eval x = xv)
    (hr : (Builtin.append_ #[t, t] o.type #[sv, xv]).run P w = .ok v' w') (h : K (a.put o.dst v') w') : if Region.wanted o (yielded ops a.tmps) = true then Oper.wp P o a w K Q else EE := by
  rw [if_pos (by simp [Region.wanted, hgd])]
  unfold Oper.wp execOp
  simp only [ho, resolve, invoke, builtin, Sem.run_bind, Sem.run_pure, Result.andThen_ok, List.map_toArray, List.map_cons, List.map_nil, hs, hx, hr]
  exact h
end Go.Proofs.Ytgckkiencmickaa

namespace Go.Proofs.Ytgckkiencmickaa
open Go.RowKit

/-- a changed value -/
def MutV (bs : List Int) (B : Nat) (a : V) (p g : Nat) (G : List Nat) (w : World) (e : Ending) (w' : World) : Prop := ∃ (b : V) (cs : List Value) (F : List Nat) (q : Nat), e = .returned (.agg cs.toArray) ∧ VR w' b cs F ∧ (∀ x ∈ F, x < w'.heap.size ∧ x ≠ g ∧ (x ∈ G ∨ w.heap.size ≤ x)) ∧ 2 * nodes b ≤ 2 * nodes a + (q - p) + 1 ∧ RdB w' g bs q ∧ p < q ∧ q ≤ B + 1 ∧ pot bs q ≤ pot bs p + 2 ∧ Chg [g] w w'
theorem pot_lt {bs : List Int} {B p : Nat} (hp : p ≤ B + 1) (h : pot bs p + 3 ≤ pot bs B) : p < B := by
  rcases Nat.lt_or_ge p B with g | g
  · exact g
  · have h2 := pot_down bs B
    rcases Nat.eq_or_lt_of_le g with e | e
    · rw [← e] at h; omega
    · have e : p = B + 1 := by omega
      rw [e] at h; omega
theorem Own.head_at {w : World} {B : Nat} {E : TypeId} {k : V} {ks : List V} {F : List Nat} {g n cap : Nat} (h : Own w B E 3 VR (k :: ks) (.slice (some ⟨g, 0, none⟩) n cap) F) :
    ∃ A1 cap1 G1, w.cell? ⟨g, 0, none⟩ = some (.int .i64 k.c) ∧ w.cell? ⟨g, 1, none⟩ = some (.int .i64 k.n) ∧ w.cell? ⟨g, 2, none⟩ = some (.slice A1 k.ks.length cap1) ∧ VR w k [.int .i64 k.c, .int .i64 k.n, .slice A1 k.ks.length cap1] G1 ∧ (∀ b ∈ G1, b ∈ F) := by
  obtain ⟨cs, h1, h2, h3, h4⟩ := h
  have hc : ∃ m, w.ownsRow B E 3 (.slice (some ⟨g, 0, none⟩) n cap) m cs := ⟨_, h1⟩
  obtain ⟨c1, c2, F1, F2, rfl, rfl, k1, k2⟩ := h2
  obtain ⟨kv, rfl, ha⟩ := (VR_iff _ _ _).1 k1
  obtain ⟨A1, cap1, rfl, -, -⟩ := ha.form
  have hn : (k :: ks).length = n := by
    rcases h1.2 with ⟨hv, -⟩ | ⟨g', cap', cur, hv, -⟩
    · cases hv
    · cases hv; rfl
  rw [hn] at h1
  have hc := cellsAt_ownsRow h1
  exact ⟨A1, cap1, F1, hc 0 _ rfl, hc 1 _ rfl, hc 2 _ rfl, k1, fun b hb => List.mem_append.2 (.inl hb)⟩

def MutF (bs : List Int) (B f : Nat) : Prop := ∀ (a : V) (w : World) (p g : Nat) (_ : RdB w g bs p) (_ : B + 1 ≤ p + f) (_ : p ≤ B + 1) (_ : pot bs p + 3 ≤ pot bs B) (_ : 2 * nodes a ≤ 4000 + p) (cs : List Value) (G : List Nat) (_ : VR w a cs G) (_ : Under w.heap.size G) (_ : ∀ b ∈ G, b ≠ g),
    Calls Try.prog 50 #[.pointer (some ⟨g, 0, none⟩), .agg cs.toArray] w (MutV bs B a p g G w)
set_option maxRecDepth 100000 in
set_option maxHeartbeats 16000000 in
theorem spec_l2Mutate_step (bs : List Int) (B f : Nat) (hB : B ≤ 1100000) (ih : MutF bs B f) : MutF bs B (f + 1) := by
  intro a w p g hr hf hp hpot hn cs G hv hG hGg
  have hpB := pot_lt hp hpot
  have hgl := hr.lt
  obtain ⟨kv, rfl, ha⟩ := (VR_iff _ _ _).1 hv
  obtain ⟨A4, cap4, rfl, hc3, hc4⟩ := ha.form
  obtain ⟨i0, hi, hz0, hz1, hz2⟩ := info_parts info_VE
  have hkl : a.ks.length ≤ 600000 := by rw [nodes_ks, V.sizes_eq] at hn; omega
  have HGG := Lib.hid hGg
  have IH := Lib.hid ih
  clear ih
  have hws : (((w.alloc (.cells #[.int .i64 a.c, .int .i64 a.n, .slice A4 a.ks.length cap4] 25)).alloc (.cells #[.int .i64 0, .int .i64 0, .slice none 0 0] 25))).heap.size = w.heap.size + 2 := by simp
  have hB0 : Below w.heap.size w ((w.alloc (.cells #[.int .i64 a.c, .int .i64 a.n, .slice A4 a.ks.length cap4] 25)).alloc (.cells #[.int .i64 0, .int .i64 0, .slice none 0 0] 25)) := ((Below.refl _ _).alloc (Nat.le_refl _) _).alloc (by simp) _
  have KV : Hid (Blk ((w.alloc (.cells #[.int .i64 a.c, .int .i64 a.n, .slice A4 a.ks.length cap4] 25)).alloc (.cells #[.int .i64 0, .int .i64 0, .slice none 0 0] 25)) w.heap.size 25 #[.int .i64 a.c, .int .i64 a.n, .slice A4 a.ks.length cap4]) := (Blk.new w _ _).same (Below.heap_alloc _ _ _ (by simp))
  have KR : Hid (Blk ((w.alloc (.cells #[.int .i64 a.c, .int .i64 a.n, .slice A4 a.ks.length cap4] 25)).alloc (.cells #[.int .i64 0, .int .i64 0, .slice none 0 0] 25)) (w.heap.size + 1) 25 #[.int .i64 0, .int .i64 0, .slice none 0 0]) := blk_second w _ 25 _
  have HX : Hid (Arr ((w.alloc (.cells #[.int .i64 a.c, .int .i64 a.n, .slice A4 a.ks.length cap4] 25)).alloc (.cells #[.int .i64 0, .int .i64 0, .slice none 0 0] 25)) (VR ((w.alloc (.cells #[.int .i64 a.c, .int .i64 a.n, .slice A4 a.ks.length cap4] 25)).alloc (.cells #[.int .i64 0, .int .i64 0, .slice none 0 0] 25))) a.ks (.slice A4 a.ks.length cap4) G) := ArrV.below ha hB0 hG
  have HG := Lib.hid hG
  have HR : Hid (RdB ((w.alloc (.cells #[.int .i64 a.c, .int .i64 a.n, .slice A4 a.ks.length cap4] 25)).alloc (.cells #[.int .i64 0, .int .i64 0, .slice none 0 0] 25)) g bs p) := hr.below hB0
  have HI := Lib.hid hi
  have HZ0 := Lib.hid hz0
  have HZ1 := Lib.hid hz1
  have HZ2 := Lib.hid hz2
  clear hi hz0 hz1 hz2
  clear hv ha hG hGg hr
  go_enter Try.func50, Try.ntmps50
  go_wp2_with fail
  obtain ⟨W0, hW0⟩ : ∃ X, X = ((w.alloc (.cells #[.int .i64 a.c, .int .i64 a.n, .slice A4 a.ks.length cap4] 25)).alloc (.cells #[.int .i64 0, .int .i64 0, .slice none 0 0] 25)) := ⟨_, rfl⟩
  rw [← hW0] at hws hB0 KV KR HX HR ⊢
  clear hW0
  have hkvl := KV.out.lt
  go_cut [5] from 6 (fun pv wc => ∃ (D : Nat) (vA : Option Addr) (vcap : Nat) (F2 : List Nat), pv = .pointer (some ⟨D, 0, none⟩) ∧ w.heap.size + 2 ≤ D ∧ Hid (Blk wc D 25 #[.int .i64 a.c, .int .i64 a.n, .slice vA a.ks.length vcap]) ∧ Hid (Own wc (w.heap.size + 2) 25 3 VR a.ks (.slice vA a.ks.length vcap) F2) ∧ Hid (∀ b ∈ F2, b ∈ G) ∧ Hid (D ∉ rowOf (.slice vA a.ks.length vcap)) ∧ Hid (Below (w.heap.size + 2) W0 wc))
  case first =>
    have HS : Hid (∀ C : World, Below (w.heap.size + 2) W0 C → (C.cell? ⟨w.heap.size, 0, none⟩ = some (.int .i64 a.c) ∧ C.cell? ⟨w.heap.size, 1, none⟩ = some (.int .i64 a.n) ∧ C.cell? ⟨w.heap.size, 2, none⟩ = some (.slice A4 a.ks.length cap4))) := fun C hb => ⟨((KV.out.same (hb.block _ (by omega))).cell 0).trans (by simp), ((KV.out.same (hb.block _ (by omega))).cell 1).trans (by simp), ((KV.out.same (hb.block _ (by omega))).cell 2).trans (by simp)⟩
    have hC0 : Below (w.heap.size + 2) W0 W0.drew := (Below.refl _ _).drew
    have hsz0 : W0.drew.heap.size = w.heap.size + 2 := hws
    have HX0 : Hid (Arr W0.drew (VR W0.drew) a.ks (.slice A4 a.ks.length cap4) G) := ArrV.mono HX.out (w' := W0.drew) (fun _ _ => rfl)
    refine wp_region_B (S := fun w' => w'.cell? ⟨w.heap.size, 0, none⟩ = some (.int .i64 a.c) ∧ w'.cell? ⟨w.heap.size, 1, none⟩ = some (.int .i64 a.n) ∧ w'.cell? ⟨w.heap.size, 2, none⟩ = some (.slice A4 a.ks.length cap4)) (T := fun _ => True) (d := 99) (by kernel_rfl) ?_
    obtain ⟨wd, hwd⟩ : ∃ X, X = W0.drew := ⟨_, rfl⟩
    rw [← hwd] at hC0 hsz0 HX0 ⊢
    clear hwd
    have hS0 := HS.out _ hC0
    have hT0 : True := trivial
    have hz0 : w.heap.size + 2 ≤ wd.heap.size := by omega
    clear hsz0
    refine wpAnyB_take (i := 0) (v := ?_) rfl (by decide) (by kernel_rfl) (by kernel_rfl) (by kernel_rfl) (fun _ _ _ h => h) (Or.inl ⟨by rfl, ?hy0⟩) hS0 (fun _ => hT0) ?_
    case hy0 => (intro W hSw; (try dsimp only at hSw); (try obtain ⟨hSw0, hSw1, hSw2⟩ := hSw); go_simp; try with_reducible rfl)
    (try simp only [Act.put, List.getElem_toArray, List.getElem_cons_zero, List.getElem_cons_succ, List.setIfInBounds_toArray, List.set_cons_zero, List.set_cons_succ])
    refine wpAnyB_take (i := 1) (v := ?_) rfl (by decide) (by kernel_rfl) (by kernel_rfl) (by kernel_rfl) (fun _ _ _ h => h) (Or.inl ⟨by rfl, ?hy1⟩) hS0 (fun _ => hT0) ?_
    case hy1 => (intro W hSw; (try dsimp only at hSw); (try obtain ⟨hSw0, hSw1, hSw2⟩ := hSw); go_simp; try with_reducible rfl)
    (try simp only [Act.put, List.getElem_toArray, List.getElem_cons_zero, List.getElem_cons_succ, List.setIfInBounds_toArray, List.set_cons_zero, List.set_cons_succ])
    refine wpAnyB_take (i := 2) (v := ?_) rfl (by decide) (by kernel_rfl) (by kernel_rfl) (by kernel_rfl) (fun _ _ _ h => h) (Or.inl ⟨by rfl, ?hy2⟩) hS0 (fun _ => hT0) ?_
    case hy2 => (intro W hSw; (try dsimp only at hSw); (try obtain ⟨hSw0, hSw1, hSw2⟩ := hSw); go_simp; try with_reducible rfl)
    (try simp only [Act.put, List.getElem_toArray, List.getElem_cons_zero, List.getElem_cons_succ, List.setIfInBounds_toArray, List.set_cons_zero, List.set_cons_succ])
    refine wpAnyB_take (i := 3) (v := ?_) rfl (by decide) (by kernel_rfl) (by kernel_rfl) (by kernel_rfl) (fun _ _ _ h => h) (Or.inl ⟨by rfl, ?hy3⟩) hS0 (fun _ => hT0) ?_
    case hy3 => (intro W hSw; (try dsimp only at hSw); (try obtain ⟨hSw0, hSw1, hSw2⟩ := hSw); go_simp; try with_reducible rfl)
    (try simp only [Act.put, List.getElem_toArray, List.getElem_cons_zero, List.getElem_cons_succ, List.setIfInBounds_toArray, List.set_cons_zero, List.set_cons_succ])
    refine wpAnyB_take (i := 5) (v := ?_) rfl (by decide) (by kernel_rfl) (by kernel_rfl) (by kernel_rfl) (fun _ _ _ h => h) (Or.inl ⟨by rfl, ?hy5⟩) hS0 (fun _ => hT0) ?_
    case hy5 => (intro W hSw; (try dsimp only at hSw); (try obtain ⟨hSw0, hSw1, hSw2⟩ := hSw); go_simp; try with_reducible rfl)
    (try simp only [Act.put, List.getElem_toArray, List.getElem_cons_zero, List.getElem_cons_succ, List.setIfInBounds_toArray, List.set_cons_zero, List.set_cons_succ])
    refine wpAnyB_take (i := 6) (v := ?_) rfl (by decide) (by kernel_rfl) (by kernel_rfl) (by kernel_rfl) (fun _ _ _ h => h) (Or.inl ⟨by rfl, ?hy6⟩) hS0 (fun _ => hT0) ?_
    case hy6 => (intro W hSw; (try dsimp only at hSw); (try obtain ⟨hSw0, hSw1, hSw2⟩ := hSw); go_simp; try with_reducible rfl)
    (try simp only [Act.put, List.getElem_toArray, List.getElem_cons_zero, List.getElem_cons_succ, List.setIfInBounds_toArray, List.set_cons_zero, List.set_cons_succ])
    refine wpAnyB_ready (rs := [4, 9]) (by kernel_rfl) (by simp) ?_
    refine AllReadyB.cons rfl (fun K hK => ?_) (AllReadyB.cons rfl (fun K hK => ?_) (AllReadyB.nil))
    · skip
      go_simp
      obtain ⟨C1, hX⟩ : ∃ X, X = wd.alloc (.cells #[] 25) := ⟨_, rfl⟩
      obtain ⟨g1, hg1⟩ : ∃ X, X = wd.heap.size := ⟨_, rfl⟩
      have hb1 : Below wd.heap.size wd C1 := by rw [hX]; exact (Below.refl _ _).alloc (Nat.le_refl _) _
      have hzz : C1.heap.size = wd.heap.size + 1 := by rw [hX]; simp
      have HO1 : Hid (Own C1 (w.heap.size + 2) 25 3 VR ([] : List V) (.slice (some ⟨g1, 0, none⟩) 0 0) []) := by
        rw [hX, hg1]
        exact Own.made wd (w.heap.size + 2) 25 3 VR #[] 0 hz0 (by simp [maxLen]) rfl
      rw [← hX, ← hg1]
      clear hX
      have hC1 : Below (w.heap.size + 2) W0 C1 := hC0.trans (hb1.mono hz0)
      have hz1 : w.heap.size + 2 ≤ C1.heap.size := by omega
      have HX1 := Lib.hid (ArrV.below HX0.out hb1 (HG.out.mono (by omega)))
      have hgl : g1 < C1.heap.size := by omega
      clear hb1 hzz hg1
      (try dsimp only)
      refine hK.out _ _ (HS.out _ hC1) (fun _ => trivial) ?_
      clear hK K
      (try simp only [Act.put, List.getElem_toArray, List.getElem_cons_zero, List.getElem_cons_succ, List.setIfInBounds_toArray, List.set_cons_zero, List.set_cons_succ])
      refine wpAnyB_ready (rs := [7, 9]) (by kernel_rfl) (by simp) ?_
      refine AllReadyB.cons rfl (fun K hK => ?_) (AllReadyB.cons rfl (fun K hK => ?_) (AllReadyB.nil))
      · skip
        obtain ⟨v2, C2, F2, hr2, ho2, hG2, hgr2, hat2⟩ := run_append_all (P := Try.prog) 23 23 i0 _ 40 Try.underlying23 HI.out HZ0.out HZ1.out HZ2.out rfl (by decide) VR_len' VR_mono' VR_one' HO1.out HX1.out (HG.out.mono (by omega)) (fun x hx hxG => by rw [rowOf_some, List.mem_singleton] at hx; subst hx; have := HG.out _ hxG; have := (HO1.out.row _ (by rw [rowOf_some]; exact List.mem_singleton.2 rfl)).1; omega) (by simp; omega) (by simp; omega) hz1
        rw [List.nil_append, List.nil_append] at ho2
        obtain ⟨vA, vcap, rfl, hvc1, hvc2⟩ := ho2.form
        have hrow : ∀ x, some g1 = some x → w.heap.size + 2 ≤ x := fun x hx => by cases hx; exact (HO1.out.row _ (by rw [rowOf_some]; exact List.mem_singleton.2 rfl)).1
        have hC2 : Below (w.heap.size + 2) W0 C2 := hC1.grown hgr2 hz1 hrow
        have hzz : C1.heap.size ≤ C2.heap.size := hgr2.size
        have hz2 : w.heap.size + 2 ≤ C2.heap.size := by omega
        have HO2 := Lib.hid ho2
        have HG2 := Lib.hid hG2
        refine step_append_run (P := Try.prog) rfl _ _ 23 rfl (by rfl) (by rfl) hr2 ?_
        clear hr2 ho2 hG2 hgr2 hat2 hrow hvc1 hvc2
        (try dsimp only)
        refine hK.out _ _ (HS.out _ hC2) (fun _ => trivial) ?_
        clear hK K
        (try simp only [Act.put, List.getElem_toArray, List.getElem_cons_zero, List.getElem_cons_succ, List.setIfInBounds_toArray, List.set_cons_zero, List.set_cons_succ])
        refine wpAnyB_take (i := 8) (v := ?_) rfl (by decide) (by kernel_rfl) (by kernel_rfl) (by kernel_rfl) (fun _ _ _ h => h) (Or.inl ⟨by rfl, ?hy8⟩) (HS.out _ hC2) (fun _ => hT0) ?_
        case hy8 => (intro W hSw; (try dsimp only at hSw); (try obtain ⟨hSw0, hSw1, hSw2⟩ := hSw); go_simp; try with_reducible rfl)
        (try simp only [Act.put, List.getElem_toArray, List.getElem_cons_zero, List.getElem_cons_succ, List.setIfInBounds_toArray, List.set_cons_zero, List.set_cons_succ])
        refine wpAnyB_ready (rs := [9]) (by kernel_rfl) (by simp) ?_
        refine AllReadyB.cons rfl (fun K hK => ?_) AllReadyB.nil
        go_simp
        obtain ⟨C3, hX⟩ : ∃ X, X = C2.alloc (.cells #[.int .i64 0, .int .i64 0, .slice none 0 0] 25) := ⟨_, rfl⟩
        obtain ⟨D, hD⟩ : ∃ X, X = C2.heap.size := ⟨_, rfl⟩
        have hb3 : Below C2.heap.size C2 C3 := by rw [hX]; exact (Below.refl _ _).alloc (Nat.le_refl _) _
        have KD3 : Hid (Blk C3 D 25 #[.int .i64 0, .int .i64 0, .slice none 0 0]) := by rw [hX, hD]; exact Blk.new _ _ _
        rw [← hX, ← hD]
        clear hX
        have hdge : w.heap.size + 2 ≤ D := by rw [hD]; exact hz2
        have hC3 : Below (w.heap.size + 2) W0 C3 := hC2.trans (hb3.mono hz2)
        have HO3 := Lib.hid (Own.below (fun x cs G hk h => VR_mono' _ _ x cs G hk h) HO2.out hb3)
        have HDR : Hid (D ∉ rowOf (.slice vA a.ks.length vcap)) := fun h => by have := (HO2.out.row _ h).2; omega
        clear hb3 hD
        (try dsimp only)
        refine hK.out _ _ (HS.out _ hC3) (fun _ => trivial) ?_
        clear hK K
        (try simp only [Act.put, List.getElem_toArray, List.getElem_cons_zero, List.getElem_cons_succ, List.setIfInBounds_toArray, List.set_cons_zero, List.set_cons_succ])
        have yy0 : C3.cell? ⟨D, 0, none⟩ = some (.int .i64 0) := (KD3.out.cell 0).trans (by simp)
        have ff0 := KD3.out.frozen 0
        have yy1 : C3.cell? ⟨D, 1, none⟩ = some (.int .i64 0) := (KD3.out.cell 1).trans (by simp)
        have ff1 := KD3.out.frozen 1
        have yy2 : C3.cell? ⟨D, 2, none⟩ = some (.slice none 0 0) := (KD3.out.cell 2).trans (by simp)
        have ff2 := KD3.out.frozen 2
        have yylt := KD3.out.lt
        have hCe : Below (w.heap.size + 2) W0 (((C3.setCell ⟨D, 0, none⟩ (.int .i64 a.c)).setCell ⟨D, 1, none⟩ (.int .i64 a.n)).setCell ⟨D, 2, none⟩ (.slice vA a.ks.length vcap)) := ((hC3.setCell hdge _).setCell hdge _).setCell hdge _
        have hKe : Hid (Blk (((C3.setCell ⟨D, 0, none⟩ (.int .i64 a.c)).setCell ⟨D, 1, none⟩ (.int .i64 a.n)).setCell ⟨D, 2, none⟩ (.slice vA a.ks.length vcap)) D 25 #[.int .i64 a.c, .int .i64 a.n, .slice vA a.ks.length vcap]) := ((KD3.out.set_ 0 _).set_ 1 _).set_ 2 _
        have hDF : D ∉ F2 := fun h => by have := HG.out _ (HG2.out _ h); omega
        have hOe : Hid (Own (((C3.setCell ⟨D, 0, none⟩ (.int .i64 a.c)).setCell ⟨D, 1, none⟩ (.int .i64 a.n)).setCell ⟨D, 2, none⟩ (.slice vA a.ks.length vcap)) (w.heap.size + 2) 25 3 VR a.ks (.slice vA a.ks.length vcap) F2) := (((HO3.out.set (fun w w' x cs G hk h => VR_mono' w w' x cs G hk h) _ HDR.out hDF).set (fun w w' x cs G hk h => VR_mono' w w' x cs G hk h) _ HDR.out hDF).set (fun w w' x cs G hk h => VR_mono' w w' x cs G hk h) _ HDR.out hDF)
        refine wpAnyB_ready (rs := [10]) (by kernel_rfl) (by simp) ?_
        refine AllReadyB.cons rfl (fun K hK => ?_) AllReadyB.nil
        go_simp
        refine hK.out _ _ (HS.out _ hCe) (fun _ => trivial) ?_
        clear hK K
        (try simp only [Act.put, List.getElem_toArray, List.getElem_cons_zero, List.getElem_cons_succ, List.setIfInBounds_toArray, List.set_cons_zero, List.set_cons_succ])
        refine wpAnyB_end (by kernel_rfl) ?_
        clear yy0 ff0 yy1 ff1 yy2 ff2 yylt
        go_wp2
        go_meet
        case rel => exact ⟨D, vA, vcap, F2, rfl, hdge, hKe, hOe, HG2, HDR, hCe⟩
      · skip
        go_simp
        obtain ⟨C4, hX⟩ : ∃ X, X = C1.alloc (.cells #[.int .i64 0, .int .i64 0, .slice none 0 0] 25) := ⟨_, rfl⟩
        obtain ⟨D, hD⟩ : ∃ X, X = C1.heap.size := ⟨_, rfl⟩
        have hb4 : Below C1.heap.size C1 C4 := by rw [hX]; exact (Below.refl _ _).alloc (Nat.le_refl _) _
        have hzz : C4.heap.size = C1.heap.size + 1 := by rw [hX]; simp
        have KD4 : Hid (Blk C4 D 25 #[.int .i64 0, .int .i64 0, .slice none 0 0]) := by rw [hX, hD]; exact Blk.new _ _ _
        rw [← hX, ← hD]
        clear hX
        have hdge : w.heap.size + 2 ≤ D := by rw [hD]; exact hz1
        have hC4 : Below (w.heap.size + 2) W0 C4 := hC1.trans (hb4.mono hz1)
        have hz4 : w.heap.size + 2 ≤ C4.heap.size := by omega
        have HX4 := Lib.hid (ArrV.below HX1.out hb4 (HG.out.mono (by omega)))
        have HO4 := Lib.hid (Own.below (fun x cs G hk h => VR_mono' _ _ x cs G hk h) HO1.out hb4)
        have hgd : g1 ≠ D := by omega
        clear hb4 hzz hD
        (try dsimp only)
        refine hK.out _ _ (HS.out _ hC4) (fun _ => trivial) ?_
        clear hK K
        (try simp only [Act.put, List.getElem_toArray, List.getElem_cons_zero, List.getElem_cons_succ, List.setIfInBounds_toArray, List.set_cons_zero, List.set_cons_succ])
        refine wpAnyB_ready (rs := [7]) (by kernel_rfl) (by simp) ?_
        refine AllReadyB.cons rfl (fun K hK => ?_) (AllReadyB.nil)
        obtain ⟨v2, C5, F2, hr5, ho5, hG5, hgr5, hat5⟩ := run_append_all (P := Try.prog) 23 23 i0 _ 40 Try.underlying23 HI.out HZ0.out HZ1.out HZ2.out rfl (by decide) VR_len' VR_mono' VR_one' HO4.out HX4.out (HG.out.mono (by omega)) (fun x hx hxG => by rw [rowOf_some, List.mem_singleton] at hx; subst hx; have := HG.out _ hxG; have := (HO4.out.row _ (by rw [rowOf_some]; exact List.mem_singleton.2 rfl)).1; omega) (by simp; omega) (by simp; omega) hz4
        rw [List.nil_append, List.nil_append] at ho5
        obtain ⟨vA, vcap, rfl, hvc1, hvc2⟩ := ho5.form
        have hrow : ∀ x, some g1 = some x → w.heap.size + 2 ≤ x := fun x hx => by cases hx; exact (HO4.out.row _ (by rw [rowOf_some]; exact List.mem_singleton.2 rfl)).1
        have hC5 : Below (w.heap.size + 2) W0 C5 := hC4.grown hgr5 hz4 hrow
        have hzz : C4.heap.size ≤ C5.heap.size := hgr5.size
        have hz5 : w.heap.size + 2 ≤ C5.heap.size := by omega
        have HO5 := Lib.hid ho5
        have HG2 := Lib.hid hG5
        have KD5 : Hid (Blk C5 D 25 #[.int .i64 0, .int .i64 0, .slice none 0 0]) := KD4.out.same (hgr5.block _ KD4.out.lt (fun e => by
          have e : some D = some g1 := e
          cases e; exact hgd rfl))
        have HDR : Hid (D ∉ rowOf (.slice vA a.ks.length vcap)) := fun h => by
          have hm := mem_rowOf.1 h
          rcases hat5 with q | q
          · rw [q] at hm
            have hm : some g1 = some D := hm
            cases hm; exact hgd rfl
          · rw [q] at hm
            have hm : some C4.heap.size = some D := hm
            have := KD4.out.lt
            cases hm; omega
        refine step_append_run (P := Try.prog) rfl _ _ 23 rfl (by rfl) (by rfl) hr5 ?_
        clear hr5 ho5 hG5 hgr5 hat5 hrow hvc1 hvc2
        (try dsimp only)
        refine hK.out _ _ (HS.out _ hC5) (fun _ => trivial) ?_
        clear hK K
        (try simp only [Act.put, List.getElem_toArray, List.getElem_cons_zero, List.getElem_cons_succ, List.setIfInBounds_toArray, List.set_cons_zero, List.set_cons_succ])
        refine wpAnyB_take (i := 8) (v := ?_) rfl (by decide) (by kernel_rfl) (by kernel_rfl) (by kernel_rfl) (fun _ _ _ h => h) (Or.inl ⟨by rfl, ?hy8⟩) (HS.out _ hC5) (fun _ => hT0) ?_
        case hy8 => (intro W hSw; (try dsimp only at hSw); (try obtain ⟨hSw0, hSw1, hSw2⟩ := hSw); go_simp; try with_reducible rfl)
        (try simp only [Act.put, List.getElem_toArray, List.getElem_cons_zero, List.getElem_cons_succ, List.setIfInBounds_toArray, List.set_cons_zero, List.set_cons_succ])
        have yy0 : C5.cell? ⟨D, 0, none⟩ = some (.int .i64 0) := (KD5.out.cell 0).trans (by simp)
        have ff0 := KD5.out.frozen 0
        have yy1 : C5.cell? ⟨D, 1, none⟩ = some (.int .i64 0) := (KD5.out.cell 1).trans (by simp)
        have ff1 := KD5.out.frozen 1
        have yy2 : C5.cell? ⟨D, 2, none⟩ = some (.slice none 0 0) := (KD5.out.cell 2).trans (by simp)
        have ff2 := KD5.out.frozen 2
        have yylt := KD5.out.lt
        have hCe : Below (w.heap.size + 2) W0 (((C5.setCell ⟨D, 0, none⟩ (.int .i64 a.c)).setCell ⟨D, 1, none⟩ (.int .i64 a.n)).setCell ⟨D, 2, none⟩ (.slice vA a.ks.length vcap)) := ((hC5.setCell hdge _).setCell hdge _).setCell hdge _
        have hKe : Hid (Blk (((C5.setCell ⟨D, 0, none⟩ (.int .i64 a.c)).setCell ⟨D, 1, none⟩ (.int .i64 a.n)).setCell ⟨D, 2, none⟩ (.slice vA a.ks.length vcap)) D 25 #[.int .i64 a.c, .int .i64 a.n, .slice vA a.ks.length vcap]) := ((KD5.out.set_ 0 _).set_ 1 _).set_ 2 _
        have hDF : D ∉ F2 := fun h => by have := HG.out _ (HG2.out _ h); omega
        have hOe : Hid (Own (((C5.setCell ⟨D, 0, none⟩ (.int .i64 a.c)).setCell ⟨D, 1, none⟩ (.int .i64 a.n)).setCell ⟨D, 2, none⟩ (.slice vA a.ks.length vcap)) (w.heap.size + 2) 25 3 VR a.ks (.slice vA a.ks.length vcap) F2) := (((HO5.out.set (fun w w' x cs G hk h => VR_mono' w w' x cs G hk h) _ HDR.out hDF).set (fun w w' x cs G hk h => VR_mono' w w' x cs G hk h) _ HDR.out hDF).set (fun w w' x cs G hk h => VR_mono' w w' x cs G hk h) _ HDR.out hDF)
        refine wpAnyB_ready (rs := [10]) (by kernel_rfl) (by simp) ?_
        refine AllReadyB.cons rfl (fun K hK => ?_) AllReadyB.nil
        go_simp
        refine hK.out _ _ (HS.out _ hCe) (fun _ => trivial) ?_
        clear hK K
        (try simp only [Act.put, List.getElem_toArray, List.getElem_cons_zero, List.getElem_cons_succ, List.setIfInBounds_toArray, List.set_cons_zero, List.set_cons_succ])
        refine wpAnyB_end (by kernel_rfl) ?_
        clear yy0 ff0 yy1 ff1 yy2 ff2 yylt
        go_wp2
        go_meet
        case rel => exact ⟨D, vA, vcap, F2, rfl, hdge, hKe, hOe, HG2, HDR, hCe⟩
    · skip
      go_simp
      obtain ⟨C6, hX⟩ : ∃ X, X = wd.alloc (.cells #[.int .i64 0, .int .i64 0, .slice none 0 0] 25) := ⟨_, rfl⟩
      obtain ⟨D, hD⟩ : ∃ X, X = wd.heap.size := ⟨_, rfl⟩
      have hb6 : Below wd.heap.size wd C6 := by rw [hX]; exact (Below.refl _ _).alloc (Nat.le_refl _) _
      have hzz : C6.heap.size = wd.heap.size + 1 := by rw [hX]; simp
      have KD6 : Hid (Blk C6 D 25 #[.int .i64 0, .int .i64 0, .slice none 0 0]) := by rw [hX, hD]; exact Blk.new _ _ _
      rw [← hX, ← hD]
      clear hX
      have hdge : w.heap.size + 2 ≤ D := by rw [hD]; exact hz0
      have hC6 : Below (w.heap.size + 2) W0 C6 := hC0.trans (hb6.mono hz0)
      have hz6 : w.heap.size + 2 ≤ C6.heap.size := by omega
      have HX6 := Lib.hid (ArrV.below HX0.out hb6 (HG.out.mono (by omega)))
      clear hb6 hzz hD
      (try dsimp only)
      refine hK.out _ _ (HS.out _ hC6) (fun _ => trivial) ?_
      clear hK K
      (try simp only [Act.put, List.getElem_toArray, List.getElem_cons_zero, List.getElem_cons_succ, List.setIfInBounds_toArray, List.set_cons_zero, List.set_cons_succ])
      refine wpAnyB_ready (rs := [4]) (by kernel_rfl) (by simp) ?_
      refine AllReadyB.cons rfl (fun K hK => ?_) (AllReadyB.nil)
      go_simp
      obtain ⟨C7, hX⟩ : ∃ X, X = C6.alloc (.cells #[] 25) := ⟨_, rfl⟩
      obtain ⟨g7, hg7⟩ : ∃ X, X = C6.heap.size := ⟨_, rfl⟩
      have hb7 : Below C6.heap.size C6 C7 := by rw [hX]; exact (Below.refl _ _).alloc (Nat.le_refl _) _
      have hzz : C7.heap.size = C6.heap.size + 1 := by rw [hX]; simp
      have HO7 : Hid (Own C7 (w.heap.size + 2) 25 3 VR ([] : List V) (.slice (some ⟨g7, 0, none⟩) 0 0) []) := by
        rw [hX, hg7]
        exact Own.made C6 (w.heap.size + 2) 25 3 VR #[] 0 hz6 (by simp [maxLen]) rfl
      rw [← hX, ← hg7]
      clear hX
      have KD7 : Hid (Blk C7 D 25 #[.int .i64 0, .int .i64 0, .slice none 0 0]) := KD6.out.same (hb7.block _ KD6.out.lt)
      have hgd : g7 ≠ D := by have := KD6.out.lt; omega
      have hC7 : Below (w.heap.size + 2) W0 C7 := hC6.trans (hb7.mono hz6)
      have hz7 : w.heap.size + 2 ≤ C7.heap.size := by omega
      have HX7 := Lib.hid (ArrV.below HX6.out hb7 (HG.out.mono (by omega)))
      have hgl : g7 < C7.heap.size := by omega
      clear hb7 hzz hg7
      (try dsimp only)
      refine hK.out _ _ (HS.out _ hC7) (fun _ => trivial) ?_
      clear hK K
      (try simp only [Act.put, List.getElem_toArray, List.getElem_cons_zero, List.getElem_cons_succ, List.setIfInBounds_toArray, List.set_cons_zero, List.set_cons_succ])
      refine wpAnyB_ready (rs := [7]) (by kernel_rfl) (by simp) ?_
      refine AllReadyB.cons rfl (fun K hK => ?_) (AllReadyB.nil)
      obtain ⟨v2, C8, F2, hr8, ho8, hG8, hgr8, hat8⟩ := run_append_all (P := Try.prog) 23 23 i0 _ 40 Try.underlying23 HI.out HZ0.out HZ1.out HZ2.out rfl (by decide) VR_len' VR_mono' VR_one' HO7.out HX7.out (HG.out.mono (by omega)) (fun x hx hxG => by rw [rowOf_some, List.mem_singleton] at hx; subst hx; have := HG.out _ hxG; have := (HO7.out.row _ (by rw [rowOf_some]; exact List.mem_singleton.2 rfl)).1; omega) (by simp; omega) (by simp; omega) hz7
      rw [List.nil_append, List.nil_append] at ho8
      obtain ⟨vA, vcap, rfl, hvc1, hvc2⟩ := ho8.form
      have hrow : ∀ x, some g7 = some x → w.heap.size + 2 ≤ x := fun x hx => by cases hx; exact (HO7.out.row _ (by rw [rowOf_some]; exact List.mem_singleton.2 rfl)).1
      have hC8 : Below (w.heap.size + 2) W0 C8 := hC7.grown hgr8 hz7 hrow
      have hzz : C7.heap.size ≤ C8.heap.size := hgr8.size
      have hz8 : w.heap.size + 2 ≤ C8.heap.size := by omega
      have HO8 := Lib.hid ho8
      have HG2 := Lib.hid hG8
      have KD8 : Hid (Blk C8 D 25 #[.int .i64 0, .int .i64 0, .slice none 0 0]) := KD7.out.same (hgr8.block _ KD7.out.lt (fun e => by
        have e : some D = some g7 := e
        cases e; exact hgd rfl))
      have HDR : Hid (D ∉ rowOf (.slice vA a.ks.length vcap)) := fun h => by
        have hm := mem_rowOf.1 h
        rcases hat8 with q | q
        · rw [q] at hm
          have hm : some g7 = some D := hm
          cases hm; exact hgd rfl
        · rw [q] at hm
          have hm : some C7.heap.size = some D := hm
          have := KD7.out.lt
          cases hm; omega
      refine step_append_run (P := Try.prog) rfl _ _ 23 rfl (by rfl) (by rfl) hr8 ?_
      clear hr8 ho8 hG8 hgr8 hat8 hrow hvc1 hvc2
      (try dsimp only)
      refine hK.out _ _ (HS.out _ hC8) (fun _ => trivial) ?_
      clear hK K
      (try simp only [Act.put, List.getElem_toArray, List.getElem_cons_zero, List.getElem_cons_succ, List.setIfInBounds_toArray, List.set_cons_zero, List.set_cons_succ])
      refine wpAnyB_take (i := 8) (v := ?_) rfl (by decide) (by kernel_rfl) (by kernel_rfl) (by kernel_rfl) (fun _ _ _ h => h) (Or.inl ⟨by rfl, ?hy8⟩) (HS.out _ hC8) (fun _ => hT0) ?_
      case hy8 => (intro W hSw; (try dsimp only at hSw); (try obtain ⟨hSw0, hSw1, hSw2⟩ := hSw); go_simp; try with_reducible rfl)
      (try simp only [Act.put, List.getElem_toArray, List.getElem_cons_zero, List.getElem_cons_succ, List.setIfInBounds_toArray, List.set_cons_zero, List.set_cons_succ])
      have yy0 : C8.cell? ⟨D, 0, none⟩ = some (.int .i64 0) := (KD8.out.cell 0).trans (by simp)
      have ff0 := KD8.out.frozen 0
      have yy1 : C8.cell? ⟨D, 1, none⟩ = some (.int .i64 0) := (KD8.out.cell 1).trans (by simp)
      have ff1 := KD8.out.frozen 1
      have yy2 : C8.cell? ⟨D, 2, none⟩ = some (.slice none 0 0) := (KD8.out.cell 2).trans (by simp)
      have ff2 := KD8.out.frozen 2
      have yylt := KD8.out.lt
      have hCe : Below (w.heap.size + 2) W0 (((C8.setCell ⟨D, 0, none⟩ (.int .i64 a.c)).setCell ⟨D, 1, none⟩ (.int .i64 a.n)).setCell ⟨D, 2, none⟩ (.slice vA a.ks.length vcap)) := ((hC8.setCell hdge _).setCell hdge _).setCell hdge _
      have hKe : Hid (Blk (((C8.setCell ⟨D, 0, none⟩ (.int .i64 a.c)).setCell ⟨D, 1, none⟩ (.int .i64 a.n)).setCell ⟨D, 2, none⟩ (.slice vA a.ks.length vcap)) D 25 #[.int .i64 a.c, .int .i64 a.n, .slice vA a.ks.length vcap]) := ((KD8.out.set_ 0 _).set_ 1 _).set_ 2 _
      have hDF : D ∉ F2 := fun h => by have := HG.out _ (HG2.out _ h); omega
      have hOe : Hid (Own (((C8.setCell ⟨D, 0, none⟩ (.int .i64 a.c)).setCell ⟨D, 1, none⟩ (.int .i64 a.n)).setCell ⟨D, 2, none⟩ (.slice vA a.ks.length vcap)) (w.heap.size + 2) 25 3 VR a.ks (.slice vA a.ks.length vcap) F2) := (((HO8.out.set (fun w w' x cs G hk h => VR_mono' w w' x cs G hk h) _ HDR.out hDF).set (fun w w' x cs G hk h => VR_mono' w w' x cs G hk h) _ HDR.out hDF).set (fun w w' x cs G hk h => VR_mono' w w' x cs G hk h) _ HDR.out hDF)
      refine wpAnyB_ready (rs := [10]) (by kernel_rfl) (by simp) ?_
      refine AllReadyB.cons rfl (fun K hK => ?_) AllReadyB.nil
      go_simp
      refine hK.out _ _ (HS.out _ hCe) (fun _ => trivial) ?_
      clear hK K
      (try simp only [Act.put, List.getElem_toArray, List.getElem_cons_zero, List.getElem_cons_succ, List.setIfInBounds_toArray, List.set_cons_zero, List.set_cons_succ])
      refine wpAnyB_end (by kernel_rfl) ?_
      clear yy0 ff0 yy1 ff1 yy2 ff2 yylt
      go_wp2
      go_meet
      case rel => exact ⟨D, vA, vcap, F2, rfl, hdge, hKe, hOe, HG2, HDR, hCe⟩
  case rest =>
    obtain ⟨D, vA, vcap, F2, rfl, hDge, KD, HO, HG2, HDR, HBc⟩ := hcut
    obtain ⟨wp, hwp⟩ : ∃ X, X = wc := ⟨_, rfl⟩
    rw [← hwp] at KD HO HBc ⊢
    clear hwp
    have KRp : Hid (Blk wp (w.heap.size + 1) 25 #[.int .i64 0, .int .i64 0, .slice none 0 0]) := KR.out.same (HBc.out.block _ (by omega))
    have hBp : Below w.heap.size w wp := hB0.trans (HBc.out.mono (by omega))
    have HRp : Hid (RdB wp g bs p) := HR.out.keep fun b hb => HBc.out.block _ (by omega)
    have hDw : D < wp.heap.size := KD.out.lt
    have HFG : Hid (∀ b ∈ F2, b ≠ g ∧ b ≠ w.heap.size + 1 ∧ (b ∈ G ∨ w.heap.size ≤ b)) := fun b hb => ⟨HGG.out b (HG2.out b hb), by have := HG.out b (HG2.out b hb); omega, .inl (HG2.out b hb)⟩
    have HDF : Hid (D ∉ F2) := fun h => by have := HG.out _ (HG2.out _ h); omega
    clear HX HR KR HBc
    have hp3 : pkOf bs p 24 = 3 → pot bs (p + 1) = pot bs p - 2 := pot_three bs p
    have hpk : pkOf bs p 24 = 0 ∨ pkOf bs p 24 = 1 → pot bs (p + 2) ≤ pot bs p + 2 := pot_skip bs p
    have HUP : Hid (pot bs (p + 1) ≤ pot bs p + 2) := pot_up bs p
    go_wp2_with fail
    refine (pick_x bs 24 p g wp HRp.out (by omega) (by omega) (by omega)).mono ?_
    rintro e w6 ⟨rfl, hR6, hC6⟩
    generalize pkOf bs p 24 = r at hp3 hpk ⊢
    have HC6 : Hid (Chg [g] w w6) := (Chg.of_below hBp).trans hC6
    have HR6 := Lib.hid hR6
    have KD6 : Hid (Blk w6 D 25 #[.int .i64 a.c, .int .i64 a.n, .slice vA a.ks.length vcap]) := KD.out.same (hC6.block _ KD.out.lt (by rw [List.mem_singleton]; omega))
    have KR6 : Hid (Blk w6 (w.heap.size + 1) 25 #[.int .i64 0, .int .i64 0, .slice none 0 0]) := KRp.out.same (hC6.block _ KRp.out.lt (by rw [List.mem_singleton]; omega))
    have HO6 := Lib.hid (HO.out.deeperV (fun x cs G hk h => VR_mono' _ _ x cs G hk h) hC6 (fun b hb h => by rw [List.mem_singleton] at h; have := (HO.out.row b hb).1; omega) (fun b hb h => by rw [List.mem_singleton] at h; exact (HFG.out b hb).1 h))
    have hz6 : w.heap.size + 2 ≤ w6.heap.size := by have := KD6.out.lt; omega
    clear hBp KD KRp HO HRp hR6 hC6
    by_cases h0 : r = 0
    · subst h0
      have HSK : Hid (pot bs (p + 1 + 1) ≤ pot bs p + 2) := hpk (.inl rfl)
      clear hpk hp3
      go_wp2_with fail
      have hLit : LitN (w6.alloc (.cells ([0, 1, -1, 9, -2].map (Value.int .i64)).toArray 3)) w6.heap.size [0, 1, -1, 9, -2] := LitN.new _ _ (by decide)
      have hb7 : Below w6.heap.size w6 (w6.alloc (.cells ([0, 1, -1, 9, -2].map (Value.int .i64)).toArray 3)) := (Below.refl _ _).alloc (Nat.le_refl _) _
      have hR7 : RdB (w6.alloc (.cells ([0, 1, -1, 9, -2].map (Value.int .i64)).toArray 3)) g bs (p + 1) := HR6.out.below hb7
      have hLit2 := hLit
      simp only [List.map_cons, List.map_nil] at hLit2
      obtain ⟨w7, hw7⟩ : ∃ X, X = (w6.alloc (.cells ([0, 1, -1, 9, -2].map (Value.int .i64)).toArray 3)) := ⟨_, rfl⟩
      have hw7' := hw7
      simp only [List.map_cons, List.map_nil] at hw7'
      rw [← hw7] at hLit hb7 hR7
      first | rw [← hw7] | rw [← hw7']
      clear hw7 hw7' hLit2
      have hg6 : g < w6.heap.size := HR6.out.lt
      refine (num_x bs [0, 1, -1, 9, -2] (by decide) (by decide) (p + 1) g w7 hR7 (by omega) _ _ hLit.2 (fun x hx => by rw [List.mem_singleton.1 hx]; exact hLit.1) (fun e => by rw [List.mem_singleton] at e; omega)).mono ?_
      rintro e w8 ⟨nx, -, rfl, hR8, hq8⟩
      have hC68 : Chg [g] w6 w8 := (Chg.of_below hb7).trans hq8
      have hC8 : Chg [g] w w8 := HC6.out.trans hC68
      have KD8 : Hid (Blk w8 D 25 #[.int .i64 a.c, .int .i64 a.n, .slice vA a.ks.length vcap]) := KD6.out.same (hC68.block _ KD6.out.lt (by rw [List.mem_singleton]; omega))
      have KR8 : Hid (Blk w8 (w.heap.size + 1) 25 #[.int .i64 0, .int .i64 0, .slice none 0 0]) := KR6.out.same (hC68.block _ KR6.out.lt (by rw [List.mem_singleton]; omega))
      have HO8 := Lib.hid (HO6.out.deeperV (fun x cs G hk h => VR_mono' _ _ x cs G hk h) hC68 (fun b hb h => by rw [List.mem_singleton] at h; have := (HO6.out.row b hb).1; omega) (fun b hb h => by rw [List.mem_singleton] at h; exact (HFG.out b hb).1 h))
      have HO9 : Hid (Own (w8.setCell ⟨D, 0, none⟩ (.int .i64 nx)) (w.heap.size + 2) 25 3 VR a.ks (.slice vA a.ks.length vcap) F2) := HO8.out.set (fun w w' x cs G hk h => VR_mono' w w' x cs G hk h) _ HDR.out HDF.out
      have KR9 : Hid (Blk (w8.setCell ⟨D, 0, none⟩ (.int .i64 nx)) (w.heap.size + 1) 25 #[.int .i64 0, .int .i64 0, .slice none 0 0]) := KR8.out.same (Below.heap_setCell _ _ _ _ (by show w.heap.size + 1 ≠ D; omega))
      have HR9 : Hid (RdB (w8.setCell ⟨D, 0, none⟩ (.int .i64 nx)) g bs (p + 1 + 1)) := hR8.keep fun b hb => Below.heap_setCell _ _ _ _ (by show b ≠ D; omega)
      have HC9 : Hid (Chg [g] w (w8.setCell ⟨D, 0, none⟩ (.int .i64 nx))) := hC8.set_new (by omega)
      have e0 : w8.cell? ⟨D, 0, none⟩ = some (.int .i64 a.c) := (KD8.out.cell 0).trans (by simp)
      have f0 := KD8.out.frozen 0
      have e1 : w8.cell? ⟨D, 1, none⟩ = some (.int .i64 a.n) := (KD8.out.cell 1).trans (by simp)
      have f1 := KD8.out.frozen 1
      have e2 : w8.cell? ⟨D, 2, none⟩ = some (.slice vA a.ks.length vcap) := (KD8.out.cell 2).trans (by simp)
      have f2 := KD8.out.frozen 2
      have elt := KD8.out.lt
      have r0 : w8.cell? ⟨w.heap.size + 1, 0, none⟩ = some (.int .i64 0) := (KR8.out.cell 0).trans (by simp)
      have s0 := KR8.out.frozen 0
      have r1 : w8.cell? ⟨w.heap.size + 1, 1, none⟩ = some (.int .i64 0) := (KR8.out.cell 1).trans (by simp)
      have s1 := KR8.out.frozen 1
      have r2 : w8.cell? ⟨w.heap.size + 1, 2, none⟩ = some (.slice none 0 0) := (KR8.out.cell 2).trans (by simp)
      have s2 := KR8.out.frozen 2
      have rlt := KR8.out.lt
      clear hLit hb7 hR7 hq8 hR8 hC68 hC8
      go_wp2
      clear e0 f0 e1 f1 e2 f2 elt
      clear r0 s0 r1 s1 r2 s2 rlt
      refine bodyPost_ret (results_cell_row rfl _ _ (w.heap.size + 1) 25 #[.int .i64 nx, .int .i64 a.n, .slice vA a.ks.length vcap] (0, 0) _ rfl (KR9.out.three _ _ _) Try.underlying25 rfl rfl) rfl ?_
      have hfr := HO9.out.under_any3
      have hne : ∀ b ∈ (if a.ks = [] then [] else rowOf (.slice vA a.ks.length vcap) ++ F2), b ≠ w.heap.size + 1 := fun b hb e => by
        by_cases hx : a.ks = []
        · rw [if_pos hx] at hb; cases hb
        · rw [if_neg hx] at hb
          rcases List.mem_append.1 hb with hb | hb
          · have := (HO9.out.row b hb).1; omega
          · exact (HFG.out b hb).2.1 e
      have hkp : Kept (if a.ks = [] then [] else rowOf (.slice vA a.ks.length vcap) ++ F2) (w8.setCell ⟨D, 0, none⟩ (.int .i64 nx)) ((((w8.setCell ⟨D, 0, none⟩ (.int .i64 nx)).setCell ⟨w.heap.size + 1, 0, none⟩ (.int .i64 nx)).setCell ⟨w.heap.size + 1, 1, none⟩ (.int .i64 a.n)).setCell ⟨w.heap.size + 1, 2, none⟩ (.slice vA a.ks.length vcap)) := kept_three hne _ _ _
      refine ⟨⟨nx, a.n, a.ks⟩, [.int .i64 nx, .int .i64 a.n, .slice vA a.ks.length vcap], _, p + 1 + 1, rfl, (VR_iff _ _ _).2 ⟨_, rfl, ArrV.mono HO9.out.arr hkp⟩, (fun b hb => ?_), (by rw [nodes_ks, nodes_ks]; show 2 * (1 + V.sizes a.ks) ≤ 2 * (1 + V.sizes a.ks) + (p + 1 + 1 - p) + 1; omega), rdb_three HR9.out (by omega) _ _ _, by omega, by omega, HSK.out, chg_three HC9.out (by omega) _ _ _⟩
      rw [size_three]
      refine ⟨hfr b hb, ?_⟩
      by_cases hx : a.ks = []
      · rw [if_pos hx] at hb; cases hb
      · rw [if_neg hx] at hb
        rcases List.mem_append.1 hb with hb | hb
        · have := (HO9.out.row b hb).1; exact ⟨by omega, .inr (by omega)⟩
        · exact ⟨(HFG.out b hb).1, (HFG.out b hb).2.2⟩
    by_cases h1 : r = 1
    · subst h1
      have HSK : Hid (pot bs (p + 1 + 1) ≤ pot bs p + 2) := hpk (.inr rfl)
      clear hpk hp3
      go_wp2_with fail
      have hLit : LitN (w6.alloc (.cells ([10, -1, 1].map (Value.int .i64)).toArray 3)) w6.heap.size [10, -1, 1] := LitN.new _ _ (by decide)
      have hb7 : Below w6.heap.size w6 (w6.alloc (.cells ([10, -1, 1].map (Value.int .i64)).toArray 3)) := (Below.refl _ _).alloc (Nat.le_refl _) _
      have hR7 : RdB (w6.alloc (.cells ([10, -1, 1].map (Value.int .i64)).toArray 3)) g bs (p + 1) := HR6.out.below hb7
      have hLit2 := hLit
      simp only [List.map_cons, List.map_nil] at hLit2
      obtain ⟨w7, hw7⟩ : ∃ X, X = (w6.alloc (.cells ([10, -1, 1].map (Value.int .i64)).toArray 3)) := ⟨_, rfl⟩
      have hw7' := hw7
      simp only [List.map_cons, List.map_nil] at hw7'
      rw [← hw7] at hLit hb7 hR7
      first | rw [← hw7] | rw [← hw7']
      clear hw7 hw7' hLit2
      have hg6 : g < w6.heap.size := HR6.out.lt
      refine (num_x bs [10, -1, 1] (by decide) (by decide) (p + 1) g w7 hR7 (by omega) _ _ hLit.2 (fun x hx => by rw [List.mem_singleton.1 hx]; exact hLit.1) (fun e => by rw [List.mem_singleton] at e; omega)).mono ?_
      rintro e w8 ⟨nx, -, rfl, hR8, hq8⟩
      have hC68 : Chg [g] w6 w8 := (Chg.of_below hb7).trans hq8
      have hC8 : Chg [g] w w8 := HC6.out.trans hC68
      have KD8 : Hid (Blk w8 D 25 #[.int .i64 a.c, .int .i64 a.n, .slice vA a.ks.length vcap]) := KD6.out.same (hC68.block _ KD6.out.lt (by rw [List.mem_singleton]; omega))
      have KR8 : Hid (Blk w8 (w.heap.size + 1) 25 #[.int .i64 0, .int .i64 0, .slice none 0 0]) := KR6.out.same (hC68.block _ KR6.out.lt (by rw [List.mem_singleton]; omega))
      have HO8 := Lib.hid (HO6.out.deeperV (fun x cs G hk h => VR_mono' _ _ x cs G hk h) hC68 (fun b hb h => by rw [List.mem_singleton] at h; have := (HO6.out.row b hb).1; omega) (fun b hb h => by rw [List.mem_singleton] at h; exact (HFG.out b hb).1 h))
      have HO9 : Hid (Own (w8.setCell ⟨D, 1, none⟩ (.int .i64 nx)) (w.heap.size + 2) 25 3 VR a.ks (.slice vA a.ks.length vcap) F2) := HO8.out.set (fun w w' x cs G hk h => VR_mono' w w' x cs G hk h) _ HDR.out HDF.out
      have KR9 : Hid (Blk (w8.setCell ⟨D, 1, none⟩ (.int .i64 nx)) (w.heap.size + 1) 25 #[.int .i64 0, .int .i64 0, .slice none 0 0]) := KR8.out.same (Below.heap_setCell _ _ _ _ (by show w.heap.size + 1 ≠ D; omega))
      have HR9 : Hid (RdB (w8.setCell ⟨D, 1, none⟩ (.int .i64 nx)) g bs (p + 1 + 1)) := hR8.keep fun b hb => Below.heap_setCell _ _ _ _ (by show b ≠ D; omega)
      have HC9 : Hid (Chg [g] w (w8.setCell ⟨D, 1, none⟩ (.int .i64 nx))) := hC8.set_new (by omega)
      have e0 : w8.cell? ⟨D, 0, none⟩ = some (.int .i64 a.c) := (KD8.out.cell 0).trans (by simp)
      have f0 := KD8.out.frozen 0
      have e1 : w8.cell? ⟨D, 1, none⟩ = some (.int .i64 a.n) := (KD8.out.cell 1).trans (by simp)
      have f1 := KD8.out.frozen 1
      have e2 : w8.cell? ⟨D, 2, none⟩ = some (.slice vA a.ks.length vcap) := (KD8.out.cell 2).trans (by simp)
      have f2 := KD8.out.frozen 2
      have elt := KD8.out.lt
      have r0 : w8.cell? ⟨w.heap.size + 1, 0, none⟩ = some (.int .i64 0) := (KR8.out.cell 0).trans (by simp)
      have s0 := KR8.out.frozen 0
      have r1 : w8.cell? ⟨w.heap.size + 1, 1, none⟩ = some (.int .i64 0) := (KR8.out.cell 1).trans (by simp)
      have s1 := KR8.out.frozen 1
      have r2 : w8.cell? ⟨w.heap.size + 1, 2, none⟩ = some (.slice none 0 0) := (KR8.out.cell 2).trans (by simp)
      have s2 := KR8.out.frozen 2
      have rlt := KR8.out.lt
      clear hLit hb7 hR7 hq8 hR8 hC68 hC8
      go_wp2
      clear e0 f0 e1 f1 e2 f2 elt
      clear r0 s0 r1 s1 r2 s2 rlt
      refine bodyPost_ret (results_cell_row rfl _ _ (w.heap.size + 1) 25 #[.int .i64 a.c, .int .i64 nx, .slice vA a.ks.length vcap] (0, 0) _ rfl (KR9.out.three _ _ _) Try.underlying25 rfl rfl) rfl ?_
      have hfr := HO9.out.under_any3
      have hne : ∀ b ∈ (if a.ks = [] then [] else rowOf (.slice vA a.ks.length vcap) ++ F2), b ≠ w.heap.size + 1 := fun b hb e => by
        by_cases hx : a.ks = []
        · rw [if_pos hx] at hb; cases hb
        · rw [if_neg hx] at hb
          rcases List.mem_append.1 hb with hb | hb
          · have := (HO9.out.row b hb).1; omega
          · exact (HFG.out b hb).2.1 e
      have hkp : Kept (if a.ks = [] then [] else rowOf (.slice vA a.ks.length vcap) ++ F2) (w8.setCell ⟨D, 1, none⟩ (.int .i64 nx)) ((((w8.setCell ⟨D, 1, none⟩ (.int .i64 nx)).setCell ⟨w.heap.size + 1, 0, none⟩ (.int .i64 a.c)).setCell ⟨w.heap.size + 1, 1, none⟩ (.int .i64 nx)).setCell ⟨w.heap.size + 1, 2, none⟩ (.slice vA a.ks.length vcap)) := kept_three hne _ _ _
      refine ⟨⟨a.c, nx, a.ks⟩, [.int .i64 a.c, .int .i64 nx, .slice vA a.ks.length vcap], _, p + 1 + 1, rfl, (VR_iff _ _ _).2 ⟨_, rfl, ArrV.mono HO9.out.arr hkp⟩, (fun b hb => ?_), (by rw [nodes_ks, nodes_ks]; show 2 * (1 + V.sizes a.ks) ≤ 2 * (1 + V.sizes a.ks) + (p + 1 + 1 - p) + 1; omega), rdb_three HR9.out (by omega) _ _ _, by omega, by omega, HSK.out, chg_three HC9.out (by omega) _ _ _⟩
      rw [size_three]
      refine ⟨hfr b hb, ?_⟩
      by_cases hx : a.ks = []
      · rw [if_pos hx] at hb; cases hb
      · rw [if_neg hx] at hb
        rcases List.mem_append.1 hb with hb | hb
        · have := (HO9.out.row b hb).1; exact ⟨by omega, .inr (by omega)⟩
        · exact ⟨(HFG.out b hb).1, (HFG.out b hb).2.2⟩
    by_cases h2 : r = 2
    · subst h2
      clear hpk hp3
      have e0 : w6.cell? ⟨D, 0, none⟩ = some (.int .i64 a.c) := (KD6.out.cell 0).trans (by simp)
      have f0 := KD6.out.frozen 0
      have e1 : w6.cell? ⟨D, 1, none⟩ = some (.int .i64 a.n) := (KD6.out.cell 1).trans (by simp)
      have f1 := KD6.out.frozen 1
      have e2 : w6.cell? ⟨D, 2, none⟩ = some (.slice vA a.ks.length vcap) := (KD6.out.cell 2).trans (by simp)
      have f2 := KD6.out.frozen 2
      have elt := KD6.out.lt
      go_wp2_with (at_builtin; refine Halt.mk ?_)
      refine Halt.of (wpList_push1 (P := Try.prog) rfl _ _ 23 rfl i0 _ 40 Try.underlying23 HI.out HZ0.out HZ1.out HZ2.out rfl (by decide) VR_len' VR_mono' (by rfl) HO6.out ⟨-1, 0, []⟩ 25 [.int .i64 (-1), .int .i64 0, .slice none 0 0] [] _ (by rfl) (by simp) (by simp [Value.oneCell']) ((VR_iff _ _ _).2 ⟨_, rfl, Arr.nil⟩) (Under.nil _) (fun _ _ h => by cases h) (by unfold maxLen; omega) (by omega) hz6 ?_)
      intro g7 cp7 w9 hown9 hgr9 hat9
      clear e0 f0 e1 f1 e2 f2 elt
      rw [List.append_nil] at hown9
      have HO9' := Lib.hid hown9
      have hb69 : Below (w.heap.size + 2) w6 w9 := ((Below.refl _ _).alloc hz6 _).grown hgr9 (by simp; omega) (fun x hx => (HO6.out.row x (mem_rowOf.2 hx)).1)
      have hDl := KD6.out.lt
      have hDk : w9.heap[D]? = w6.heap[D]? := (hgr9.block _ (by rw [World.size_alloc]; omega) (fun e => HDR.out (mem_rowOf.2 e.symm))).trans (Below.heap_alloc _ _ _ hDl)
      have KD9 : Hid (Blk w9 D 25 #[.int .i64 a.c, .int .i64 a.n, .slice vA a.ks.length vcap]) := KD6.out.same hDk
      have KR9' : Hid (Blk w9 (w.heap.size + 1) 25 #[.int .i64 0, .int .i64 0, .slice none 0 0]) := KR6.out.same (hb69.block _ (by omega))
      have hD7 : D ≠ g7 := fun e => by
        rcases hat9 with h | h
        · exact HDR.out (mem_rowOf.2 (by rw [e]; exact h))
        · omega
      have HO9 : Hid (Own (w9.setCell ⟨D, 2, none⟩ (.slice (some ⟨g7, 0, none⟩) (a.ks.length + 1) cp7)) (w.heap.size + 2) 25 3 VR (a.ks ++ [⟨-1, 0, []⟩]) (.slice (some ⟨g7, 0, none⟩) (a.ks.length + 1) cp7) F2) := HO9'.out.set (fun w w' x cs G hk h => VR_mono' w w' x cs G hk h) _ (fun h => by rw [rowOf_some, List.mem_singleton] at h; exact hD7 h) HDF.out
      have KR9 : Hid (Blk (w9.setCell ⟨D, 2, none⟩ (.slice (some ⟨g7, 0, none⟩) (a.ks.length + 1) cp7)) (w.heap.size + 1) 25 #[.int .i64 0, .int .i64 0, .slice none 0 0]) := KR9'.out.same (Below.heap_setCell _ _ _ _ (by show w.heap.size + 1 ≠ D; omega))
      have hC69 : Chg [g] w w9 := ⟨hb69.os.trans HC6.out.os, hb69.tape.trans HC6.out.tape, hb69.output.trans HC6.out.output, Nat.le_trans HC6.out.size hb69.size, fun b hb hn => (hb69.block b (by omega)).trans (HC6.out.block b hb hn)⟩
      have HC9 : Hid (Chg [g] w (w9.setCell ⟨D, 2, none⟩ (.slice (some ⟨g7, 0, none⟩) (a.ks.length + 1) cp7))) := hC69.set_new (by omega)
      have HR9 : Hid (RdB (w9.setCell ⟨D, 2, none⟩ (.slice (some ⟨g7, 0, none⟩) (a.ks.length + 1) cp7)) g bs (p + 1)) := (HR6.out.keep (w' := w9) (fun b hb => hb69.block b (by omega))).keep fun b hb => Below.heap_setCell _ _ _ _ (by show b ≠ D; omega)
      have e0 : w9.cell? ⟨D, 0, none⟩ = some (.int .i64 a.c) := (KD9.out.cell 0).trans (by simp)
      have f0 := KD9.out.frozen 0
      have e1 : w9.cell? ⟨D, 1, none⟩ = some (.int .i64 a.n) := (KD9.out.cell 1).trans (by simp)
      have f1 := KD9.out.frozen 1
      have e2 : w9.cell? ⟨D, 2, none⟩ = some (.slice vA a.ks.length vcap) := (KD9.out.cell 2).trans (by simp)
      have f2 := KD9.out.frozen 2
      have elt := KD9.out.lt
      have r0 : w9.cell? ⟨w.heap.size + 1, 0, none⟩ = some (.int .i64 0) := (KR9'.out.cell 0).trans (by simp)
      have s0 := KR9'.out.frozen 0
      have r1 : w9.cell? ⟨w.heap.size + 1, 1, none⟩ = some (.int .i64 0) := (KR9'.out.cell 1).trans (by simp)
      have s1 := KR9'.out.frozen 1
      have r2 : w9.cell? ⟨w.heap.size + 1, 2, none⟩ = some (.slice none 0 0) := (KR9'.out.cell 2).trans (by simp)
      have s2 := KR9'.out.frozen 2
      have rlt := KR9'.out.lt
      clear hown9 hgr9 hat9 hC69 hDk
      go_wp2
      clear e0 f0 e1 f1 e2 f2 elt
      clear r0 s0 r1 s1 r2 s2 rlt
      refine bodyPost_ret (results_cell_row rfl _ _ (w.heap.size + 1) 25 #[.int .i64 a.c, .int .i64 a.n, .slice (some ⟨g7, 0, none⟩) (a.ks.length + 1) cp7] (0, 0) _ rfl (KR9.out.three _ _ _) Try.underlying25 rfl rfl) rfl ?_
      have hfr := HO9.out.under_any3
      have hne : ∀ b ∈ (if (a.ks ++ [⟨-1, 0, []⟩]) = [] then [] else rowOf (.slice (some ⟨g7, 0, none⟩) (a.ks.length + 1) cp7) ++ F2), b ≠ w.heap.size + 1 := fun b hb e => by
        by_cases hx : (a.ks ++ [⟨-1, 0, []⟩]) = []
        · rw [if_pos hx] at hb; cases hb
        · rw [if_neg hx] at hb
          rcases List.mem_append.1 hb with hb | hb
          · have := (HO9.out.row b hb).1; omega
          · exact (HFG.out b hb).2.1 e
      have hkp : Kept (if (a.ks ++ [⟨-1, 0, []⟩]) = [] then [] else rowOf (.slice (some ⟨g7, 0, none⟩) (a.ks.length + 1) cp7) ++ F2) (w9.setCell ⟨D, 2, none⟩ (.slice (some ⟨g7, 0, none⟩) (a.ks.length + 1) cp7)) ((((w9.setCell ⟨D, 2, none⟩ (.slice (some ⟨g7, 0, none⟩) (a.ks.length + 1) cp7)).setCell ⟨w.heap.size + 1, 0, none⟩ (.int .i64 a.c)).setCell ⟨w.heap.size + 1, 1, none⟩ (.int .i64 a.n)).setCell ⟨w.heap.size + 1, 2, none⟩ (.slice (some ⟨g7, 0, none⟩) (a.ks.length + 1) cp7)) := kept_three hne _ _ _
      refine ⟨⟨a.c, a.n, a.ks ++ [⟨-1, 0, []⟩]⟩, [.int .i64 a.c, .int .i64 a.n, .slice (some ⟨g7, 0, none⟩) (a.ks.length + 1) cp7], _, p + 1, rfl, (VR_iff _ _ _).2 ⟨_, rfl, ArrV.mono HO9.out.arr hkp⟩, (fun b hb => ?_), (by rw [nodes_ks, nodes_ks]; show 2 * (1 + V.sizes (a.ks ++ [⟨-1, 0, []⟩])) ≤ 2 * (1 + V.sizes a.ks) + (p + 1 - p) + 1; rw [V.sizes_snoc]; show 2 * (1 + (V.sizes a.ks + (1 + 0))) ≤ 2 * (1 + V.sizes a.ks) + (p + 1 - p) + 1; omega), rdb_three HR9.out (by omega) _ _ _, by omega, by omega, HUP.out, chg_three HC9.out (by omega) _ _ _⟩
      rw [size_three]
      refine ⟨hfr b hb, ?_⟩
      by_cases hx : (a.ks ++ [⟨-1, 0, []⟩]) = []
      · rw [if_pos hx] at hb; cases hb
      · rw [if_neg hx] at hb
        rcases List.mem_append.1 hb with hb | hb
        · have := (HO9.out.row b hb).1; exact ⟨by omega, .inr (by omega)⟩
        · exact ⟨(HFG.out b hb).1, (HFG.out b hb).2.2⟩
    by_cases h3 : r = 3
    · subst h3
      have HP3 : Hid (pot bs (p + 1) = pot bs p - 2) := hp3 rfl
      clear hpk hp3
      by_cases hk : a.ks = []
      · have hl0 : a.ks.length = 0 := by rw [hk]; rfl
        have t5 : decide (0 < a.ks.length) = false := by rw [hl0]; rfl
        clear hk hl0
        have e0 : w6.cell? ⟨D, 0, none⟩ = some (.int .i64 a.c) := (KD6.out.cell 0).trans (by simp)
        have f0 := KD6.out.frozen 0
        have e1 : w6.cell? ⟨D, 1, none⟩ = some (.int .i64 a.n) := (KD6.out.cell 1).trans (by simp)
        have f1 := KD6.out.frozen 1
        have e2 : w6.cell? ⟨D, 2, none⟩ = some (.slice vA a.ks.length vcap) := (KD6.out.cell 2).trans (by simp)
        have f2 := KD6.out.frozen 2
        have elt := KD6.out.lt
        have r0 : w6.cell? ⟨w.heap.size + 1, 0, none⟩ = some (.int .i64 0) := (KR6.out.cell 0).trans (by simp)
        have s0 := KR6.out.frozen 0
        have r1 : w6.cell? ⟨w.heap.size + 1, 1, none⟩ = some (.int .i64 0) := (KR6.out.cell 1).trans (by simp)
        have s1 := KR6.out.frozen 1
        have r2 : w6.cell? ⟨w.heap.size + 1, 2, none⟩ = some (.slice none 0 0) := (KR6.out.cell 2).trans (by simp)
        have s2 := KR6.out.frozen 2
        have rlt := KR6.out.lt
        go_wp2
        clear e0 f0 e1 f1 e2 f2 elt
        clear r0 s0 r1 s1 r2 s2 rlt
        refine bodyPost_ret (results_cell_row rfl _ _ (w.heap.size + 1) 25 #[.int .i64 a.c, .int .i64 a.n, .slice vA a.ks.length vcap] (0, 0) _ rfl (KR6.out.three _ _ _) Try.underlying25 rfl rfl) rfl ?_
        have hfr := HO6.out.under_any3
        have hne : ∀ b ∈ (if a.ks = [] then [] else rowOf (.slice vA a.ks.length vcap) ++ F2), b ≠ w.heap.size + 1 := fun b hb e => by
          by_cases hx : a.ks = []
          · rw [if_pos hx] at hb; cases hb
          · rw [if_neg hx] at hb
            rcases List.mem_append.1 hb with hb | hb
            · have := (HO6.out.row b hb).1; omega
            · exact (HFG.out b hb).2.1 e
        have hkp : Kept (if a.ks = [] then [] else rowOf (.slice vA a.ks.length vcap) ++ F2) w6 (((w6.setCell ⟨w.heap.size + 1, 0, none⟩ (.int .i64 a.c)).setCell ⟨w.heap.size + 1, 1, none⟩ (.int .i64 a.n)).setCell ⟨w.heap.size + 1, 2, none⟩ (.slice vA a.ks.length vcap)) := kept_three hne _ _ _
        refine ⟨⟨a.c, a.n, a.ks⟩, [.int .i64 a.c, .int .i64 a.n, .slice vA a.ks.length vcap], _, p + 1, rfl, (VR_iff _ _ _).2 ⟨_, rfl, ArrV.mono HO6.out.arr hkp⟩, (fun b hb => ?_), (by rw [nodes_ks, nodes_ks]; show 2 * (1 + V.sizes a.ks) ≤ 2 * (1 + V.sizes a.ks) + (p + 1 - p) + 1; omega), rdb_three HR6.out (by omega) _ _ _, by omega, by omega, HUP.out, chg_three HC6.out (by omega) _ _ _⟩
        rw [size_three]
        refine ⟨hfr b hb, ?_⟩
        by_cases hx : a.ks = []
        · rw [if_pos hx] at hb; cases hb
        · rw [if_neg hx] at hb
          rcases List.mem_append.1 hb with hb | hb
          · have := (HO6.out.row b hb).1; exact ⟨by omega, .inr (by omega)⟩
          · exact ⟨(HFG.out b hb).1, (HFG.out b hb).2.2⟩
      · obtain ⟨k0, ks0, hk0⟩ := List.exists_cons_of_ne_nil hk
        have hpos : 0 < a.ks.length := by rw [hk0]; simp
        have hHd := HO6.out
        rw [hk0] at hHd
        have hnk : nodes a = 1 + (nodes k0 + V.sizes ks0) := by rw [nodes_ks, hk0]; rfl
        have hgx : ∃ g4, vA = some ⟨g4, 0, none⟩ := by
          obtain ⟨g4, C4, h, -⟩ := hHd.cell0V
          exact ⟨g4, h⟩
        obtain ⟨g4, rfl⟩ := hgx
        have hg4 := HO6.out.row g4 (by rw [rowOf_some]; exact List.mem_singleton.2 rfl)
        have hDg : D ≠ g4 := fun e => HDR.out (by rw [rowOf_some, e]; exact List.mem_singleton.2 rfl)
        obtain ⟨A1, cap1, G1, x0, x1, x2, hv1, hG1⟩ := hHd.head_at
        have HG1 : Hid (∀ b ∈ G1, b ∈ F2) := hG1
        have HAP : Hid (g4 ∉ F2) := HO6.out.apart g4 (by rw [rowOf_some]; exact List.mem_singleton.2 rfl)
        have HV1 := Lib.hid hv1
        have HNK := Lib.hid hnk
        have hlen : (k0 :: ks0).length = a.ks.length := by rw [hk0]
        have HHD : Hid (Own w6 (w.heap.size + 2) 25 3 VR (k0 :: ks0) (.slice (some ⟨g4, 0, none⟩) a.ks.length vcap) F2) := by
          rw [hlen] at hHd
          exact hHd
        have hq0 : (0 : Int) < (a.ks.length : Int) := by omega
        have HG1U : Hid (Under w6.heap.size G1) := fun b hb => HO6.out.under b (hG1 b hb)
        have e2 : w6.cell? ⟨D, 2, none⟩ = some (.slice (some ⟨g4, 0, none⟩) a.ks.length vcap) := (KD6.out.cell 2).trans (by simp)
        have f2 := KD6.out.frozen 2
        have elt := KD6.out.lt
        have HX0 := Lib.hid x0
        have HX1 := Lib.hid x1
        have HX2 := Lib.hid x2
        clear hv1 hG1 hnk hk0 hHd x0 x1 x2 hk hlen
        go_wp2_with fail
        clear e2 f2 elt
        have hDl := KD6.out.lt
        have hng : g4 ≠ g := by omega
        have hnD : D ≠ g := by omega
        have HS : Hid (∀ C : World, Chg [g, g4] w6 C → (C.cell? ⟨D, 2, none⟩ = some (.slice (some ⟨g4, 0, none⟩) a.ks.length vcap))) := fun C hC => (hC.cell hDl (by simp; omega)).trans ((KD6.out.cell 2).trans (by simp))
        have hC0 : Chg [g] w6 w6.drew := (Chg.refl _ _).drew
        have HRd : Hid (RdB w6.drew g bs (p + 1)) := HR6.out.keep (fun b hb => rfl)
        have HVd : Hid (VR w6.drew k0 [.int .i64 k0.c, .int .i64 k0.n, .slice A1 k0.ks.length cap1] G1) := VR.drew HV1.out
        have HGd : Hid (Under w6.drew.heap.size G1) := HG1U.out
        refine wp_region_B (S := fun w' => w'.cell? ⟨D, 2, none⟩ = some (.slice (some ⟨g4, 0, none⟩) a.ks.length vcap)) (T := fun _ => True) (d := 99) (by kernel_rfl) ?_
        obtain ⟨wd, hwd⟩ : ∃ X, X = w6.drew := ⟨_, rfl⟩
        have hzd : wd.heap.size = w6.heap.size := by rw [hwd]; rfl
        rw [← hwd] at hC0 HRd HVd HGd ⊢
        clear hwd
        have hS0 := HS.out _ (hC0.mono (by simp))
        have hT0 : True := trivial
        refine wpAnyB_take (i := 0) (v := ?_) rfl (by decide) (by kernel_rfl) (by kernel_rfl) (by kernel_rfl) (fun _ _ _ h => h) (Or.inl ⟨by rfl, ?hy0⟩) hS0 (fun _ => hT0) ?_
        case hy0 => (intro W hSw; (try dsimp only at hSw); (try obtain ⟨hSw0⟩ := hSw); go_simp; try with_reducible rfl)
        (try simp only [Act.put, List.getElem_toArray, List.getElem_cons_zero, List.getElem_cons_succ, List.setIfInBounds_toArray, List.set_cons_zero, List.set_cons_succ])
        refine wpAnyB_take (i := 1) (v := ?_) rfl (by decide) (by kernel_rfl) (by kernel_rfl) (by kernel_rfl) (fun _ _ _ h => h) (Or.inl ⟨by rfl, ?hy1⟩) hS0 (fun _ => hT0) ?_
        case hy1 => (intro W hSw; (try dsimp only at hSw); (try obtain ⟨hSw0⟩ := hSw); go_simp; try with_reducible rfl)
        (try simp only [Act.put, List.getElem_toArray, List.getElem_cons_zero, List.getElem_cons_succ, List.setIfInBounds_toArray, List.set_cons_zero, List.set_cons_succ])
        refine wpAnyB_take (i := 2) (v := ?_) rfl (by decide) (by kernel_rfl) (by kernel_rfl) (by kernel_rfl) (fun _ _ _ h => h) (Or.inl ⟨by rfl, ?hy2⟩) hS0 (fun _ => hT0) ?_
        case hy2 => (intro W hSw; (try dsimp only at hSw); (try obtain ⟨hSw0⟩ := hSw); go_simp; try with_reducible rfl)
        (try simp only [Act.put, List.getElem_toArray, List.getElem_cons_zero, List.getElem_cons_succ, List.setIfInBounds_toArray, List.set_cons_zero, List.set_cons_succ])
        refine wpAnyB_take (i := 3) (v := ?_) rfl (by decide) (by kernel_rfl) (by kernel_rfl) (by kernel_rfl) (fun _ _ _ h => h) (Or.inl ⟨by rfl, ?hy3⟩) hS0 (fun _ => hT0) ?_
        case hy3 => (intro W hSw; (try dsimp only at hSw); (try obtain ⟨hSw0⟩ := hSw); go_simp; try with_reducible rfl)
        (try simp only [Act.put, List.getElem_toArray, List.getElem_cons_zero, List.getElem_cons_succ, List.setIfInBounds_toArray, List.set_cons_zero, List.set_cons_succ])
        refine wpAnyB_take (i := 4) (v := ?_) rfl (by decide) (by kernel_rfl) (by kernel_rfl) (by kernel_rfl) (fun _ _ _ h => h) (Or.inl ⟨by rfl, ?hy4⟩) hS0 (fun _ => hT0) ?_
        case hy4 => (intro W hSw; (try dsimp only at hSw); (try obtain ⟨hSw0⟩ := hSw); go_simp; try with_reducible rfl)
        (try simp only [Act.put, List.getElem_toArray, List.getElem_cons_zero, List.getElem_cons_succ, List.setIfInBounds_toArray, List.set_cons_zero, List.set_cons_succ])
        refine wpAnyB_take (i := 5) (v := ?_) rfl (by decide) (by kernel_rfl) (by kernel_rfl) (by kernel_rfl) (fun _ _ _ h => h) (Or.inl ⟨by rfl, ?hy5⟩) hS0 (fun _ => hT0) ?_
        case hy5 => (intro W hSw; (try dsimp only at hSw); (try obtain ⟨hSw0⟩ := hSw); go_simp; try with_reducible rfl)
        (try simp only [Act.put, List.getElem_toArray, List.getElem_cons_zero, List.getElem_cons_succ, List.setIfInBounds_toArray, List.set_cons_zero, List.set_cons_succ])
        refine wpAnyB_take (i := 6) (v := ?_) rfl (by decide) (by kernel_rfl) (by kernel_rfl) (by kernel_rfl) (fun _ _ _ h => h) (Or.inl ⟨by rfl, ?hy6⟩) hS0 (fun _ => hT0) ?_
        case hy6 => (intro W hSw; (try dsimp only at hSw); (try obtain ⟨hSw0⟩ := hSw); go_simp; try with_reducible rfl)
        (try simp only [Act.put, List.getElem_toArray, List.getElem_cons_zero, List.getElem_cons_succ, List.setIfInBounds_toArray, List.set_cons_zero, List.set_cons_succ])
        refine wpAnyB_ready (rs := [7]) (by kernel_rfl) (by simp) ?_
        refine AllReadyB.cons rfl (fun K hK => ?_) AllReadyB.nil
        have x0 := (hC0.cell hg4.2 (by rw [List.mem_singleton]; omega)).trans HX0.out
        have x1 := (hC0.cell hg4.2 (by rw [List.mem_singleton]; omega)).trans HX1.out
        have x2 := (hC0.cell hg4.2 (by rw [List.mem_singleton]; omega)).trans HX2.out
        go_simp
        (try dsimp only)
        refine hK.out _ _ (HS.out _ (hC0.mono (by simp))) (fun _ => trivial) ?_
        clear hK K
        (try simp only [Act.put, List.getElem_toArray, List.getElem_cons_zero, List.getElem_cons_succ, List.setIfInBounds_toArray, List.set_cons_zero, List.set_cons_succ])
        clear x0 x1 x2
        refine wpAnyB_ready (rs := [8]) (by kernel_rfl) (by simp) ?_
        refine AllReadyB.cons rfl (fun K hK => ?_) AllReadyB.nil
        go_simp
        go_at_call 50
        refine (IH.out k0 wd (p + 1) g HRd.out (by omega) (by omega) (by have := HP3.out; omega) (by have := HNK.out; omega) _ G1 HVd.out HGd.out (fun b hb => (HFG.out b (HG1.out b hb)).1)).mono ?_
        rintro e C1 ⟨b1, cs1, Fb1, q1, rfl, hv1, hf1, hn1, hr1, hl1, hm1, ho1, hc1⟩
        obtain ⟨kv1, rfl, ha1⟩ := (VR_iff _ _ _).1 hv1
        obtain ⟨yA, ycap, rfl, -, -⟩ := ha1.form
        have hC1 : Chg [g] w6 C1 := hC0.trans hc1
        have HV1' := Lib.hid hv1
        have HR1 := Lib.hid hr1
        have HF1 := Lib.hid hf1
        have hz1 := hc1.size
        have hp1 : pot bs q1 ≤ pot bs p := by have := HP3.out; omega
        clear hv1 hr1 hf1 ha1 hc1 HRd HVd HGd
        (try dsimp only)
        refine hK.out _ _ (HS.out _ (hC1.mono (by simp))) (fun _ => trivial) ?_
        clear hK K
        (try simp only [Act.put, List.getElem_toArray, List.getElem_cons_zero, List.getElem_cons_succ, List.setIfInBounds_toArray, List.set_cons_zero, List.set_cons_succ])
        refine wpAnyB_ready (rs := [9]) (by kernel_rfl) (by simp) ?_
        refine AllReadyB.cons rfl (fun K hK => ?_) AllReadyB.nil
        go_simp
        go_at_call 50
        refine (IH.out b1 C1 q1 g HR1.out (by omega) (by omega) (by omega) (by have := HNK.out; omega) _ Fb1 HV1'.out (fun b hb => (HF1.out b hb).1) (fun b hb => (HF1.out b hb).2.1)).mono ?_
        rintro e C2 ⟨b2, cs2, Fb2, q2, rfl, hv2, hf2, hn2, hr2, hl2, hm2, ho2, hc2⟩
        obtain ⟨kv2, rfl, ha2⟩ := (VR_iff _ _ _).1 hv2
        obtain ⟨bA, bcap, rfl, -, -⟩ := ha2.form
        have hC2 : Chg [g] w6 C2 := hC1.trans hc2
        have hz2 := hc2.size
        have HF2 : Hid (∀ x ∈ Fb2, x < C2.heap.size ∧ x ≠ g ∧ (x ∈ F2 ∨ w6.heap.size ≤ x)) := fun x hx => ⟨(hf2 x hx).1, (hf2 x hx).2.1, by
          rcases (hf2 x hx).2.2 with h | h
          · rcases (HF1.out x h).2.2 with h' | h'
            · exact .inl (HG1.out x h')
            · exact .inr (by omega)
          · exact .inr (by omega)⟩
        have KD7 : Hid (Blk C2 D 25 #[.int .i64 a.c, .int .i64 a.n, .slice (some ⟨g4, 0, none⟩) a.ks.length vcap]) := KD6.out.same (hC2.block _ hDl (by rw [List.mem_singleton]; omega))
        have KR7 : Hid (Blk C2 (w.heap.size + 1) 25 #[.int .i64 0, .int .i64 0, .slice none 0 0]) := KR6.out.same (hC2.block _ KR6.out.lt (by rw [List.mem_singleton]; omega))
        have hO7 : Own C2 (w.heap.size + 2) 25 3 VR (k0 :: ks0) (.slice (some ⟨g4, 0, none⟩) a.ks.length vcap) F2 := HHD.out.deeperV (fun x cs G hk h => VR_mono' _ _ x cs G hk h) hC2 (fun b hb h => by rw [List.mem_singleton] at h; rw [rowOf_some, List.mem_singleton] at hb; omega) (fun b hb h => by rw [List.mem_singleton] at h; exact (HFG.out b hb).1 h)
        obtain ⟨F4, hF4, hO4⟩ := hO7.headV [.int .i64 b2.c, .int .i64 b2.n, .slice bA b2.ks.length bcap] rfl Fb2 b2 hv2 (fun b hb => (HF2.out b hb).1) (fun h => by
          rcases (HF2.out _ h).2.2 with h' | h'
          · exact HAP.out h'
          · omega)
        obtain ⟨g4', C4, hcc, hge4, hB4, hs4⟩ := hO7.cell0V
        cases hcc
        have HO4 : Hid (Own (((C2.setCell ⟨g4, 0, none⟩ (.int .i64 b2.c)).setCell ⟨g4, 1, none⟩ (.int .i64 b2.n)).setCell ⟨g4, 2, none⟩ (.slice bA b2.ks.length bcap)) (w.heap.size + 2) 25 3 VR (b2 :: ks0) (.slice (some ⟨g4, 0, none⟩) a.ks.length vcap) F4) := hO4
        have HF4 : Hid (∀ b ∈ F4, b ≠ g ∧ b ≠ w.heap.size + 1 ∧ (b ∈ G ∨ w.heap.size ≤ b)) := fun b hb => by
          rcases hF4 b hb with h | h
          · exact HFG.out b h
          · refine ⟨(HF2.out b h).2.1, ?_⟩
            rcases (HF2.out b h).2.2 with h' | h'
            · exact (HFG.out b h').2
            · exact ⟨by omega, .inr (by omega)⟩
        have KD8 : Hid (Blk (((C2.setCell ⟨g4, 0, none⟩ (.int .i64 b2.c)).setCell ⟨g4, 1, none⟩ (.int .i64 b2.n)).setCell ⟨g4, 2, none⟩ (.slice bA b2.ks.length bcap)) D 25 #[.int .i64 a.c, .int .i64 a.n, .slice (some ⟨g4, 0, none⟩) a.ks.length vcap]) := ((KD7.out.same (Below.heap_setCell _ _ _ _ (by show D ≠ g4; omega))).same (Below.heap_setCell _ _ _ _ (by show D ≠ g4; omega))).same (Below.heap_setCell _ _ _ _ (by show D ≠ g4; omega))
        have KR8 : Hid (Blk (((C2.setCell ⟨g4, 0, none⟩ (.int .i64 b2.c)).setCell ⟨g4, 1, none⟩ (.int .i64 b2.n)).setCell ⟨g4, 2, none⟩ (.slice bA b2.ks.length bcap)) (w.heap.size + 1) 25 #[.int .i64 0, .int .i64 0, .slice none 0 0]) := ((KR7.out.same (Below.heap_setCell _ _ _ _ (by show w.heap.size + 1 ≠ g4; omega))).same (Below.heap_setCell _ _ _ _ (by show w.heap.size + 1 ≠ g4; omega))).same (Below.heap_setCell _ _ _ _ (by show w.heap.size + 1 ≠ g4; omega))
        have HC8 : Hid (Chg [g] w (((C2.setCell ⟨g4, 0, none⟩ (.int .i64 b2.c)).setCell ⟨g4, 1, none⟩ (.int .i64 b2.n)).setCell ⟨g4, 2, none⟩ (.slice bA b2.ks.length bcap))) := ((((HC6.out.trans hC2).set_new (by omega)).set_new (by omega)).set_new (by omega))
        have hC8 : Chg [g, g4] w6 (((C2.setCell ⟨g4, 0, none⟩ (.int .i64 b2.c)).setCell ⟨g4, 1, none⟩ (.int .i64 b2.n)).setCell ⟨g4, 2, none⟩ (.slice bA b2.ks.length bcap)) := ((((hC2.mono (by simp)).set (by simp)).set (by simp)).set (by simp))
        have HR8 : Hid (RdB (((C2.setCell ⟨g4, 0, none⟩ (.int .i64 b2.c)).setCell ⟨g4, 1, none⟩ (.int .i64 b2.n)).setCell ⟨g4, 2, none⟩ (.slice bA b2.ks.length bcap)) g bs q2) := ((hr2.keep fun b hb => Below.heap_setCell _ _ _ _ (by show b ≠ g4; omega)).keep fun b hb => Below.heap_setCell _ _ _ _ (by show b ≠ g4; omega)).keep fun b hb => Below.heap_setCell _ _ _ _ (by show b ≠ g4; omega)
        have HSZ : Hid (2 * (1 + V.sizes (b2 :: ks0)) ≤ 2 * nodes a + (q2 - p) + 1) := by
          have h1 := HNK.out
          have h2 : V.sizes (b2 :: ks0) = nodes b2 + V.sizes ks0 := rfl
          unfold Hid
          omega
        have HPT : Hid (pot bs q2 ≤ pot bs p + 2) := by unfold Hid; omega
        have hpq : p < q2 := by omega
        have hx0 : ∃ u, C2.cell? ⟨g4, 0, none⟩ = some u := ⟨C4[0], by rw [hB4.cell, Array.getElem?_eq_getElem (by omega)]⟩
        have hx1 : ∃ u, C2.cell? ⟨g4, 1, none⟩ = some u := ⟨C4[1], by rw [hB4.cell, Array.getElem?_eq_getElem (by omega)]⟩
        have hx2 : ∃ u, C2.cell? ⟨g4, 2, none⟩ = some u := ⟨C4[2], by rw [hB4.cell, Array.getElem?_eq_getElem (by omega)]⟩
        obtain ⟨u0, x0⟩ := hx0
        obtain ⟨u1, x1⟩ := hx1
        obtain ⟨u2, x2⟩ := hx2
        have z0 := hB4.frozen 0
        have z1 := hB4.frozen 1
        have z2 := hB4.frozen 2
        have xlt := hB4.lt
        clear hO7 hO4 hF4 hB4 hs4 hge4 hv2 hf2 hn2 hr2 ha2 hc2 ho2
        (try dsimp only)
        refine hK.out _ _ (HS.out _ (hC2.mono (by simp))) (fun _ => trivial) ?_
        clear hK K
        (try simp only [Act.put, List.getElem_toArray, List.getElem_cons_zero, List.getElem_cons_succ, List.setIfInBounds_toArray, List.set_cons_zero, List.set_cons_succ])
        have hS2 := HS.out _ (hC2.mono (by simp))
        refine wpAnyB_take (i := 10) (v := ?_) rfl (by decide) (by kernel_rfl) (by kernel_rfl) (by kernel_rfl) (fun _ _ _ h => h) (Or.inl ⟨by rfl, ?hy10⟩) hS2 (fun _ => hT0) ?_
        case hy10 => (intro W hSw; (try dsimp only at hSw); (try obtain ⟨hSw0⟩ := hSw); go_simp; try with_reducible rfl)
        (try simp only [Act.put, List.getElem_toArray, List.getElem_cons_zero, List.getElem_cons_succ, List.setIfInBounds_toArray, List.set_cons_zero, List.set_cons_succ])
        refine wpAnyB_ready (rs := [11]) (by kernel_rfl) (by simp) ?_
        refine AllReadyB.cons rfl (fun K hK => ?_) AllReadyB.nil
        go_simp
        (try dsimp only)
        refine hK.out _ _ (HS.out _ hC8) (fun _ => trivial) ?_
        clear hK K
        (try simp only [Act.put, List.getElem_toArray, List.getElem_cons_zero, List.getElem_cons_succ, List.setIfInBounds_toArray, List.set_cons_zero, List.set_cons_succ])
        refine wpAnyB_end (by kernel_rfl) ?_
        clear x0 x1 x2 z0 z1 z2 xlt hC8 hS0 hT0 hS2
        obtain ⟨w10, hw10⟩ : ∃ X, X = (((C2.setCell ⟨g4, 0, none⟩ (.int .i64 b2.c)).setCell ⟨g4, 1, none⟩ (.int .i64 b2.n)).setCell ⟨g4, 2, none⟩ (.slice bA b2.ks.length bcap)) := ⟨_, rfl⟩
        rw [← hw10] at KD8 KR8 HC8 HR8 HO4 ⊢
        have h10 : C2.heap.size = w10.heap.size := by rw [hw10]; simp [World.setCell]
        clear hw10
        have e0 : w10.cell? ⟨D, 0, none⟩ = some (.int .i64 a.c) := (KD8.out.cell 0).trans (by simp)
        have f0 := KD8.out.frozen 0
        have e1 : w10.cell? ⟨D, 1, none⟩ = some (.int .i64 a.n) := (KD8.out.cell 1).trans (by simp)
        have f1 := KD8.out.frozen 1
        have e2 : w10.cell? ⟨D, 2, none⟩ = some (.slice (some ⟨g4, 0, none⟩) a.ks.length vcap) := (KD8.out.cell 2).trans (by simp)
        have f2 := KD8.out.frozen 2
        have elt := KD8.out.lt
        have r0 : w10.cell? ⟨w.heap.size + 1, 0, none⟩ = some (.int .i64 0) := (KR8.out.cell 0).trans (by simp)
        have s0 := KR8.out.frozen 0
        have r1 : w10.cell? ⟨w.heap.size + 1, 1, none⟩ = some (.int .i64 0) := (KR8.out.cell 1).trans (by simp)
        have s1 := KR8.out.frozen 1
        have r2 : w10.cell? ⟨w.heap.size + 1, 2, none⟩ = some (.slice none 0 0) := (KR8.out.cell 2).trans (by simp)
        have s2 := KR8.out.frozen 2
        have rlt := KR8.out.lt
        go_wp2
        clear e0 f0 e1 f1 e2 f2 elt
        clear r0 s0 r1 s1 r2 s2 rlt
        refine bodyPost_ret (results_cell_row rfl _ _ (w.heap.size + 1) 25 #[.int .i64 a.c, .int .i64 a.n, .slice (some ⟨g4, 0, none⟩) a.ks.length vcap] (0, 0) _ rfl (KR8.out.three _ _ _) Try.underlying25 rfl rfl) rfl ?_
        have hfr := HO4.out.under_any3
        have hne : ∀ b ∈ (if (b2 :: ks0) = [] then [] else rowOf (.slice (some ⟨g4, 0, none⟩) a.ks.length vcap) ++ F4), b ≠ w.heap.size + 1 := fun b hb e => by
          by_cases hx : (b2 :: ks0) = []
          · rw [if_pos hx] at hb; cases hb
          · rw [if_neg hx] at hb
            rcases List.mem_append.1 hb with hb | hb
            · have := (HO4.out.row b hb).1; omega
            · exact (HF4.out b hb).2.1 e
        have hkp : Kept (if (b2 :: ks0) = [] then [] else rowOf (.slice (some ⟨g4, 0, none⟩) a.ks.length vcap) ++ F4) w10 (((w10.setCell ⟨w.heap.size + 1, 0, none⟩ (.int .i64 a.c)).setCell ⟨w.heap.size + 1, 1, none⟩ (.int .i64 a.n)).setCell ⟨w.heap.size + 1, 2, none⟩ (.slice (some ⟨g4, 0, none⟩) a.ks.length vcap)) := kept_three hne _ _ _
        refine ⟨⟨a.c, a.n, b2 :: ks0⟩, [.int .i64 a.c, .int .i64 a.n, .slice (some ⟨g4, 0, none⟩) a.ks.length vcap], _, q2, rfl, (VR_iff _ _ _).2 ⟨_, rfl, ArrV.mono HO4.out.arr hkp⟩, (fun b hb => ?_), HSZ.out, rdb_three HR8.out (by omega) _ _ _, by omega, by omega, HPT.out, chg_three HC8.out (by omega) _ _ _⟩
        rw [size_three]
        refine ⟨hfr b hb, ?_⟩
        by_cases hx : (b2 :: ks0) = []
        · rw [if_pos hx] at hb; cases hb
        · rw [if_neg hx] at hb
          rcases List.mem_append.1 hb with hb | hb
          · have := (HO4.out.row b hb).1; exact ⟨by omega, .inr (by omega)⟩
          · exact ⟨(HF4.out b hb).1, (HF4.out b hb).2.2⟩
    clear hpk hp3
    have q0 : ((r : Int) == 0) = false := by rw [beq_eq_false_iff_ne]; omega
    have q1 : ((r : Int) == 1) = false := by rw [beq_eq_false_iff_ne]; omega
    have q2 : ((r : Int) == 2) = false := by rw [beq_eq_false_iff_ne]; omega
    have q3 : ((r : Int) == 3) = false := by rw [beq_eq_false_iff_ne]; omega
    have e0 : w6.cell? ⟨D, 0, none⟩ = some (.int .i64 a.c) := (KD6.out.cell 0).trans (by simp)
    have f0 := KD6.out.frozen 0
    have e1 : w6.cell? ⟨D, 1, none⟩ = some (.int .i64 a.n) := (KD6.out.cell 1).trans (by simp)
    have f1 := KD6.out.frozen 1
    have e2 : w6.cell? ⟨D, 2, none⟩ = some (.slice vA a.ks.length vcap) := (KD6.out.cell 2).trans (by simp)
    have f2 := KD6.out.frozen 2
    have elt := KD6.out.lt
    have r0 : w6.cell? ⟨w.heap.size + 1, 0, none⟩ = some (.int .i64 0) := (KR6.out.cell 0).trans (by simp)
    have s0 := KR6.out.frozen 0
    have r1 : w6.cell? ⟨w.heap.size + 1, 1, none⟩ = some (.int .i64 0) := (KR6.out.cell 1).trans (by simp)
    have s1 := KR6.out.frozen 1
    have r2 : w6.cell? ⟨w.heap.size + 1, 2, none⟩ = some (.slice none 0 0) := (KR6.out.cell 2).trans (by simp)
    have s2 := KR6.out.frozen 2
    have rlt := KR6.out.lt
    go_wp2
    clear e0 f0 e1 f1 e2 f2 elt
    clear r0 s0 r1 s1 r2 s2 rlt
    refine bodyPost_ret (results_cell_row rfl _ _ (w.heap.size + 1) 25 #[.int .i64 a.c, .int .i64 a.n, .slice vA a.ks.length vcap] (0, 0) _ rfl (KR6.out.three _ _ _) Try.underlying25 rfl rfl) rfl ?_
    have hfr := HO6.out.under_any3
    have hne : ∀ b ∈ (if a.ks = [] then [] else rowOf (.slice vA a.ks.length vcap) ++ F2), b ≠ w.heap.size + 1 := fun b hb e => by
      by_cases hx : a.ks = []
      · rw [if_pos hx] at hb; cases hb
      · rw [if_neg hx] at hb
        rcases List.mem_append.1 hb with hb | hb
        · have := (HO6.out.row b hb).1; omega
        · exact (HFG.out b hb).2.1 e
    have hkp : Kept (if a.ks = [] then [] else rowOf (.slice vA a.ks.length vcap) ++ F2) w6 (((w6.setCell ⟨w.heap.size + 1, 0, none⟩ (.int .i64 a.c)).setCell ⟨w.heap.size + 1, 1, none⟩ (.int .i64 a.n)).setCell ⟨w.heap.size + 1, 2, none⟩ (.slice vA a.ks.length vcap)) := kept_three hne _ _ _
    refine ⟨⟨a.c, a.n, a.ks⟩, [.int .i64 a.c, .int .i64 a.n, .slice vA a.ks.length vcap], _, p + 1, rfl, (VR_iff _ _ _).2 ⟨_, rfl, ArrV.mono HO6.out.arr hkp⟩, (fun b hb => ?_), (by rw [nodes_ks, nodes_ks]; show 2 * (1 + V.sizes a.ks) ≤ 2 * (1 + V.sizes a.ks) + (p + 1 - p) + 1; omega), rdb_three HR6.out (by omega) _ _ _, by omega, by omega, HUP.out, chg_three HC6.out (by omega) _ _ _⟩
    rw [size_three]
    refine ⟨hfr b hb, ?_⟩
    by_cases hx : a.ks = []
    · rw [if_pos hx] at hb; cases hb
    · rw [if_neg hx] at hb
      rcases List.mem_append.1 hb with hb | hb
      · have := (HO6.out.row b hb).1; exact ⟨by omega, .inr (by omega)⟩
      · exact ⟨(HFG.out b hb).1, (HFG.out b hb).2.2⟩
theorem spec_l2Mutate_all (bs : List Int) (B : Nat) (hB : B ≤ 1100000) : ∀ f, MutF bs B f
  | 0 => by
    intro a w p g hr hf hp hpot
    have := pot_lt hp hpot
    omega
  | f + 1 => spec_l2Mutate_step bs B f hB (spec_l2Mutate_all bs B hB f)
end Go.Proofs.Ytgckkiencmickaa
