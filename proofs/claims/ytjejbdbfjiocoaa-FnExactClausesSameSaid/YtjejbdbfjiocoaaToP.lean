/-
  Contracts of the functions toPattern, toPatternS (deep copies). Conditions: no more than 1048576 parts.
-/
import Derived.Test.YtjejbdbfjiocoaaP
import Derived.Test.YtjejbdbfjiocoaaChecked
namespace Go.Proofs.Ytjejbdbfjiocoaa
open Go.RowKit

theorem info_P : (Try.prog.info? 51).map (fun i => (i.zero, i.size, i.bytes)) = some (some (.agg #[.int .i64 0, .int .i64 0, .int .i64 0, .int .i64 0, .int .i64 0, .slice none 0 0]), 6, 64) := by kernel_rfl

/-- a copy has been made -/
def MadeP (w : World) (v : P) (e : Ending) (w' : World) : Prop := ∃ (cs : List Value) (F : List Nat), e = .returned (.agg cs.toArray) ∧ Below w.heap.size w w' ∧ PR w' v cs F ∧ Free w' F ∧ Fresh w w' F
def MadePs (w : World) (vs : List P) (e : Ending) (w' : World) : Prop := ∃ (x : Value) (F : List Nat), e = .returned x ∧ Below w.heap.size w w' ∧ Arr w' (PR w') vs x F ∧ Free w' F ∧ Fresh w w' F

def ToP (v : P) : Prop := ∀ (w : World) (cs : List Value) (F : List Nat), PR w v cs F → Under w.heap.size F → v.size ≤ 1048576 →
  Calls Try.prog 29 #[.agg cs.toArray] w (MadeP w v)

set_option maxHeartbeats 400000 in
theorem toPatternS_of (ks : List P) (ih : ∀ k ∈ ks, ToP k) (w : World) (F : List Nat) (x : Value) (hx : Arr w (PR w) ks x F) (hF : Under w.heap.size F) (hz : P.sizes ks ≤ 1048576) :
    Calls Try.prog 79 #[x] w (MadePs w ks) := by
  have HX := Lib.hid hx
  obtain ⟨A, cap, rfl, hl, hm⟩ := hx.form
  clear hx
  have hn : ks.length ≤ 1048576 := by rw [P.sizes_eq] at hz; omega
  have IH := Lib.hid ih
  clear ih
  have HS := Lib.hid hF
  clear hF
  have HZ := Lib.hid hz
  clear hz
  obtain ⟨i0, hi, hz0, hz1, hz2⟩ := info_parts info_P
  have hmk := fun W => run_make_rowN (P := Try.prog) 49 51 i0 _ Try.underlying49 hi hz0 .i64 .i64 ks.length ks.length (Nat.le_refl _) (by rw [hz2]; omega) (by omega) W
  simp only [Value.cells, hz1] at hmk
  clear hi hz0 hz1 hz2
  generalize hC : madeCells #[.int .i64 0, .int .i64 0, .int .i64 0, .int .i64 0, .int .i64 0, .slice none 0 0] (ks.length * 6) = C at hmk
  have HC := Lib.hid hC
  clear hC
  go_enter Try.func79, Try.ntmps79
  go_wp2
  have HR0 := Lib.hid (show Row (w.alloc (.cells C 51)) w.heap.size 51 6 ks.length (PR (w.alloc (.cells C 51))) ([] : List P) [] from by
    rw [← HC.out]; exact Row.made w _ 6 ks.length _ _)
  have hB0 : Below w.heap.size w (w.alloc (.cells C 51)) := (Below.refl _ _).alloc (Nat.le_refl _) _
  go_loopw [4] (fun i wr => ∃ k : Nat, ∃ G : List Nat, k ≤ ks.length ∧ i = .int .i64 k ∧ Below w.heap.size w wr ∧ Hid (Row wr w.heap.size 51 6 ks.length (PR wr) (ks.take k) G ∧ Free wr G ∧ ∀ b ∈ G, w.heap.size < b ∧ b < wr.heap.size)) (fun i _ => ks.length - (intOf i).toNat)
  case atStart => exact ⟨0, [], Nat.zero_le _, rfl, hB0, ⟨HR0.out, Free.nil _, fun b hb => by cases hb⟩⟩
  case round =>
    obtain ⟨k, G, hk, rfl, hB, HR⟩ := hrel
    have hgs := HR.out.1.lt
    by_cases hlt : k < ks.length
    · obtain ⟨b, off, cs, H, rfl, hb, hcs, hv, hH⟩ := HX.out.get PR_len hlt
      have hbl := HS.out b hb
      have hHF := HS.out.sub hH
      have hv1 := hv.below hB hHF
      have hcs1 := hcs.same (hB.block b hbl)
      obtain ⟨kv, rfl, _⟩ := (PR_iff _ _ _).1 hv
      have c0 := hcs1 0 _ rfl
      have c1 := hcs1 1 _ rfl
      have c2 := hcs1 2 _ rfl
      have c3 := hcs1 3 _ rfl
      have c4 := hcs1 4 _ rfl
      have c5 := hcs1 5 _ rfl
      simp only [Nat.add_zero] at c0
      clear hcs hcs1 hv hH
      have HV := Lib.hid hv1
      clear hv1
      have HG := Lib.hid hHF
      clear hHF
      go_wp2_with fail
      refine (IH.out _ (List.getElem_mem hlt) _ _ H HV.out (HG.out.mono hB.size) (by
        have h1 := HZ.out
        have h2 := P.size_lt ks k hlt
        omega)).mono ?_
      rintro e w' ⟨cs', H', rfl, hB', hv', hfr, hfs⟩
      obtain ⟨kv', rfl, ha'⟩ := (PR_iff _ _ _).1 hv'
      obtain ⟨A', cap', rfl, -, -⟩ := ha'.form
      have hGk : Kept G wr w' := .of_below hB' fun b hb => (HR.out.2.2 b hb).2
      have hR1 := HR.out.1.mono (w' := w') (R' := PR w') (hB'.block _ hgs) hGk (fun x _ => PR.mono x)
      have hn3 : k * 6 + 6 ≤ ks.length * 6 := by omega
      obtain ⟨⟨u0, d0⟩, f0⟩ := hR1.old (k * 6) (by omega)
      obtain ⟨⟨u1, d1⟩, f1⟩ := hR1.old (k * 6 + 1) (by omega)
      obtain ⟨⟨u2, d2⟩, f2⟩ := hR1.old (k * 6 + 2) (by omega)
      obtain ⟨⟨u3, d3⟩, f3⟩ := hR1.old (k * 6 + 3) (by omega)
      obtain ⟨⟨u4, d4⟩, f4⟩ := hR1.old (k * 6 + 4) (by omega)
      obtain ⟨⟨u5, d5⟩, f5⟩ := hR1.old (k * 6 + 5) (by omega)
      have HR1 := Lib.hid hR1
      clear hR1 ha'
      have hB3 := hB.trans (hB'.mono hB.size)
      have hg3 := putCells_grown w.heap.size [.int .i64 ks[k].op, .int .i64 ks[k].ct, .int .i64 ks[k].n, .int .i64 ks[k].m, .int .i64 ks[k].va, .slice A' ks[k].ks.length cap'] w' (k * 6)
      have hB4 := Lib.hid (hB3.grown hg3.1 hB3.size (fun _ h => by cases h; exact Nat.le_refl _))
      have hkH : Kept H' w' (putCells w' w.heap.size (k * 6) [.int .i64 ks[k].op, .int .i64 ks[k].ct, .int .i64 ks[k].n, .int .i64 ks[k].m, .int .i64 ks[k].va, .slice A' ks[k].ks.length cap']) := fun b hb => hg3.1.block b (hfs b hb).2 (fun e => by cases e; have := (hfs _ hb).1; omega)
      have hkG : Kept G w' (putCells w' w.heap.size (k * 6) [.int .i64 ks[k].op, .int .i64 ks[k].ct, .int .i64 ks[k].n, .int .i64 ks[k].m, .int .i64 ks[k].va, .slice A' ks[k].ks.length cap']) := fun b hb => hg3.1.block b (Nat.lt_of_lt_of_le (HR.out.2.2 b hb).2 hB'.size) (fun e => by cases e; have := (HR.out.2.2 _ hb).1; omega)
      have hR4 := Lib.hid (by
        have h := Row.store (R' := PR (putCells w' w.heap.size (k * 6) [.int .i64 ks[k].op, .int .i64 ks[k].ct, .int .i64 ks[k].n, .int .i64 ks[k].m, .int .i64 ks[k].va, .slice A' ks[k].ks.length cap'])) (x := ks[k]) (cs := [.int .i64 ks[k].op, .int .i64 ks[k].ct, .int .i64 ks[k].n, .int .i64 ks[k].m, .int .i64 ks[k].va, .slice A' ks[k].ks.length cap']) PR_len HR1.out rfl (by simp; omega) (fun hg => by have := (HR.out.2.2 _ hg).1; omega)
          (fun x _ ds H hk h => PR.mono x ds H (by rw [show (ks.take k).length = k by simp; omega] at hk; exact hk) h)
          (PR.mono _ _ _ hkH hv')
        rw [show (ks.take k).length = k by simp; omega] at h
        rw [← take_snoc' ks k hlt] at h
        exact (And.intro h (And.intro (show Free (putCells w' w.heap.size (k * 6) [.int .i64 ks[k].op, .int .i64 ks[k].ct, .int .i64 ks[k].n, .int .i64 ks[k].m, .int .i64 ks[k].va, .slice A' ks[k].ks.length cap']) (G ++ H') from
          ⟨List.nodup_append.2 ⟨HR.out.2.1.1, hfr.1, fun a ha c hc hac => by
              subst hac
              have := (HR.out.2.2 _ ha).2
              have := (hfs _ hc).1
              omega⟩,
           fun b hb i => by
            rcases List.mem_append.1 hb with hb | hb
            · exact ((HR.out.2.1.kept hGk).kept hkG).2 b hb i
            · exact (hfr.kept hkH).2 b hb i⟩)
          (show ∀ b ∈ G ++ H', w.heap.size < b ∧ b < (putCells w' w.heap.size (k * 6) [.int .i64 ks[k].op, .int .i64 ks[k].ct, .int .i64 ks[k].n, .int .i64 ks[k].m, .int .i64 ks[k].va, .slice A' ks[k].ks.length cap']).heap.size from fun b hb => by
            rw [hg3.2]
            rcases List.mem_append.1 hb with hb | hb
            · exact ⟨(HR.out.2.2 b hb).1, Nat.lt_of_lt_of_le (HR.out.2.2 b hb).2 hB'.size⟩
            · exact ⟨Nat.lt_of_lt_of_le hgs (hfs b hb).1, (hfs b hb).2⟩))))
      clear hg3 HR1 hv' hfr hfs hkH hkG hGk hB3 hB' HR HV
      go_wp2
      go_roundw
      case rel => exact ⟨k + 1, _, by omega, by go_num, hB4.out, hR4.out⟩
      case measure => simp [intOf]; omega
    · have hfin : MadePs w ks (.returned (.slice (some ⟨w.heap.size, 0, none⟩) ks.length ks.length)) wr := by
        obtain ⟨h, hf, hb⟩ := HR.out
        rw [List.take_of_length_le (by omega)] at h
        have hng : w.heap.size ∉ G := fun hg => by have := (hb _ hg).1; omega
        obtain ⟨G', h1, h2⟩ := h.arr rfl (by unfold maxLen; omega)
        refine ⟨_, G', rfl, hB, h1, ?_, ?_⟩
        · rcases h2 with rfl | rfl
          · exact h.free hf hng
          · exact Free.nil _
        · rcases h2 with rfl | rfl
          · intro b hb'
            rcases List.mem_cons.1 hb' with rfl | hb'
            · exact ⟨Nat.le_refl _, hgs⟩
            · exact ⟨Nat.le_of_lt (hb b hb').1, (hb b hb').2⟩
          · exact Fresh.nil _ _
      have HFin := Lib.hid hfin
      clear hfin
      go_wp2
      go_ret
      exact HFin.out

set_option maxHeartbeats 400000 in
theorem toPattern_all : ∀ v, ToP v := P.ind fun op ct n m va ks ih w cs F hv hF hz => by
  obtain ⟨kv, rfl, hk⟩ := (PR_iff _ _ _).1 hv
  have hz' : P.sizes ks ≤ 1048576 := hz
  have IH := Lib.hid ih
  clear ih hv
  have HK := Lib.hid hk
  obtain ⟨A, cap, rfl, -, -⟩ := hk.form
  clear hk
  have HS := Lib.hid hF
  clear hF
  go_enter Try.func29, Try.ntmps29
  go_wp2_with fail
  obtain ⟨W3, hW3⟩ : ∃ W3, W3 = (((w.alloc (Obj.cells #[Value.int IntKind.i64 op, Value.int IntKind.i64 ct, Value.int IntKind.i64 n, Value.int IntKind.i64 m, Value.int IntKind.i64 va, Value.slice A ks.length cap] 46)).alloc
          (Obj.cells #[Value.int IntKind.i64 0, Value.int IntKind.i64 0, Value.int IntKind.i64 0, Value.int IntKind.i64 0, Value.int IntKind.i64 0, Value.slice none 0 0] 51)).alloc
      (Obj.cells #[Value.int IntKind.i64 op, Value.int IntKind.i64 ct, Value.int IntKind.i64 n, Value.int IntKind.i64 m, Value.int IntKind.i64 va, Value.slice none 0 0] 51)) := ⟨_, rfl⟩
  have hB3 : Below w.heap.size w W3 := by rw [hW3]; exact (((Below.refl _ _).alloc (Nat.le_refl _) _).alloc (by simp) _).alloc (by simp; omega) _
  have hsz : W3.heap.size = w.heap.size + 3 := by rw [hW3]; simp
  have b1 : Blk W3 (w.heap.size + 1) 51 #[Value.int IntKind.i64 0, Value.int IntKind.i64 0, Value.int IntKind.i64 0, Value.int IntKind.i64 0, Value.int IntKind.i64 0, Value.slice none 0 0] := by
    rw [hW3]
    have := Blk.new (w.alloc (Obj.cells #[Value.int IntKind.i64 op, Value.int IntKind.i64 ct, Value.int IntKind.i64 n, Value.int IntKind.i64 m, Value.int IntKind.i64 va, Value.slice A ks.length cap] 46)) 51 #[Value.int IntKind.i64 0, Value.int IntKind.i64 0, Value.int IntKind.i64 0, Value.int IntKind.i64 0, Value.int IntKind.i64 0, Value.slice none 0 0]
    rw [World.size_alloc] at this
    exact this.same (Below.heap_alloc _ _ _ (by simp))
  have b2 : Blk W3 (w.heap.size + 2) 51 #[Value.int IntKind.i64 op, Value.int IntKind.i64 ct, Value.int IntKind.i64 n, Value.int IntKind.i64 m, Value.int IntKind.i64 va, Value.slice none 0 0] := by
    rw [hW3]
    have := Blk.new ((w.alloc (Obj.cells #[Value.int IntKind.i64 op, Value.int IntKind.i64 ct, Value.int IntKind.i64 n, Value.int IntKind.i64 m, Value.int IntKind.i64 va, Value.slice A ks.length cap] 46)).alloc (Obj.cells #[Value.int IntKind.i64 0, Value.int IntKind.i64 0, Value.int IntKind.i64 0, Value.int IntKind.i64 0, Value.int IntKind.i64 0, Value.slice none 0 0] 51)) 51 #[Value.int IntKind.i64 op, Value.int IntKind.i64 ct, Value.int IntKind.i64 n, Value.int IntKind.i64 m, Value.int IntKind.i64 va, Value.slice none 0 0]
    simpa using this
  rw [← hW3]
  clear hW3
  refine (toPatternS_of ks IH.out W3 F _ (ArrP.below HK.out hB3 HS.out) (HS.out.mono (by omega)) hz').mono ?_
  rintro e w' ⟨x, G, rfl, hB, hx, hfr, hfs⟩
  obtain ⟨A', cap', rfl, -, -⟩ := hx.form
  have hgs := hB.size
  have k1 := b1.same (hB.block (w.heap.size + 1) (by omega))
  have k2 := b2.same (hB.block (w.heap.size + 2) (by omega))
  have d0 := k1.cell 0
  have d1 := k1.cell 1
  have d2 := k1.cell 2
  have d3 := k1.cell 3
  have d4 := k1.cell 4
  have d5 := k1.cell 5
  have f0 := k1.frozen 0
  have f1 := k1.frozen 1
  have f2 := k1.frozen 2
  have f3 := k1.frozen 3
  have f4 := k1.frozen 4
  have f5 := k1.frozen 5
  have e0 := k2.cell 0
  have e1 := k2.cell 1
  have e2 := k2.cell 2
  have e3 := k2.cell 3
  have e4 := k2.cell 4
  have e5 := k2.cell 5
  have g0 := k2.frozen 0
  have g1 := k2.frozen 1
  have g2 := k2.frozen 2
  have g3 := k2.frozen 3
  have g4 := k2.frozen 4
  have g5 := k2.frozen 5
  simp only [List.getElem?_toArray, List.getElem?_cons_zero, List.getElem?_cons_succ] at d0 d1 d2 d3 d4 d5 e0 e1 e2 e3 e4 e5
  have hX := Lib.hid hx
  have hFr := Lib.hid hfr
  have hFs := Lib.hid hfs
  clear hx k1 k2 b1 b2 hfr hfs
  go_wp2
  refine bodyPost_ret (v := .agg #[.int .i64 op, .int .i64 ct, .int .i64 n, .int .i64 m, .int .i64 va, .slice A' ks.length cap']) (by simp [results, Try.results29, go_sem, d0, d1, d2, d3, d4, d5]) rfl ?_
  have hkeep : Kept G w' (((((((w'.setCell ⟨w.heap.size + 1 + 1, 5, none⟩ (.slice A' ks.length cap')).setCell ⟨w.heap.size + 1, 0, none⟩ (.int .i64 op)).setCell ⟨w.heap.size + 1, 1, none⟩ (.int .i64 ct)).setCell ⟨w.heap.size + 1, 2, none⟩ (.int .i64 n)).setCell ⟨w.heap.size + 1, 3, none⟩ (.int .i64 m)).setCell ⟨w.heap.size + 1, 4, none⟩ (.int .i64 va)).setCell ⟨w.heap.size + 1, 5, none⟩ (.slice A' ks.length cap')) := fun b hb => by
    have h1 := (hFs.out b hb).1
    rw [Below.heap_setCell _ _ _ _ (by simp; omega), Below.heap_setCell _ _ _ _ (by simp; omega), Below.heap_setCell _ _ _ _ (by simp; omega), Below.heap_setCell _ _ _ _ (by simp; omega), Below.heap_setCell _ _ _ _ (by simp; omega), Below.heap_setCell _ _ _ _ (by simp; omega), Below.heap_setCell _ _ _ _ (by simp; omega)]
  refine ⟨[.int .i64 op, .int .i64 ct, .int .i64 n, .int .i64 m, .int .i64 va, .slice A' ks.length cap'], G, rfl, ((((((((hB3.trans (hB.mono (by omega))).setCell (by simp; omega) _).setCell (by simp) _).setCell (by simp) _).setCell (by simp) _).setCell (by simp) _).setCell (by simp) _).setCell (by simp) _), ?_, hFr.out.kept hkeep, fun b hb => ⟨by have := (hFs.out b hb).1; omega, by simpa [World.setCell] using (hFs.out b hb).2⟩⟩
  rw [PR_iff]
  exact ⟨_, rfl, ArrP.mono hX.out hkeep⟩

theorem toPatternS_any (ks : List P) (w : World) (F : List Nat) (x : Value) (hx : Arr w (PR w) ks x F) (hF : Under w.heap.size F) (hz : P.sizes ks ≤ 1048576) :
    Calls Try.prog 79 #[x] w (MadePs w ks) := toPatternS_of ks (fun k _ => toPattern_all k) w F x hx hF hz
theorem toPattern_any (v : P) (w : World) (cs : List Value) (F : List Nat) (hv : PR w v cs F) (hF : Under w.heap.size F) (hz : v.size ≤ 1048576) :
    Calls Try.prog 29 #[.agg cs.toArray] w (MadeP w v) := toPattern_all v w cs F hv hF hz
end Go.Proofs.Ytjejbdbfjiocoaa
