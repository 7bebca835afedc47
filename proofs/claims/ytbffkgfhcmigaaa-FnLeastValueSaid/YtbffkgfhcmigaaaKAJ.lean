/-
  Lemmas and contracts of functions: Contracts of the functions szValue, szValueS: they count the nodes down from a bound. Conditions: the bound is between 0 and 1048576. Contracts of the functions toValue, toValueS (deep copies). Conditions: no more than 1048576 parts. Contracts of eqValue, eqValueS at equal trees. Conditions: both stand for the same tree of at most 1048576 parts. The pattern that only a value matches, in plain Lean. Conditions: none. A node of a tree under construction: its cells lie in a block, its kids are appended one by one. Conditions: none. The law of append on slices of the call's own, at a step of a region that draws its order. Conditions: none. The pattern of a value: the walks of both functions. Conditions: no more than a million nodes. l2Count of the reference. Conditions: no more than two million nodes. valueScan of the program, without holes. Conditions: the world is valid. ValueValid of both. Conditions: no more than a million nodes. PatternOf of both. Conditions: no more than a million nodes.
-/
import Derived.Test.YtbffkgfhcmigaaaKAC
import Derived.Test.YtbffkgfhcmigaaaChecked
import Derived.Deep.RegionWith
import Derived.Deep.RegionHeld3
import Derived.BigQuiet
import Derived.Test.YtbffkgfhcmigaaaKAA
import Derived.Test.YtbffkgfhcmigaaaKAB
import Derived.Deep.QuietTactic
import Derived.IntWalk

set_option linter.unusedVariables false
set_option linter.unusedSimpArgs false

namespace Go.Proofs.Ytbffkgfhcmigaaa
open Go.RowKit

/-- contract of szValue at one tree -/
def SzV (v : V) : Prop := ∀ (w : World) (cs : List Value) (F : List Nat) (left : Int), VR w v cs F → Under w.heap.size F → 0 ≤ left → left ≤ 1048576 →
  Calls Try.prog 16 #[.agg cs.toArray, .int .i64 left] w fun e w' => e = .returned (.int .i64 (szLeft v.size left)) ∧ Below w.heap.size w w'

set_option maxHeartbeats 400000 in
theorem szValueS_of (ks : List V) (ih : ∀ k ∈ ks, SzV k) (w : World) (F : List Nat) (x : Value) (left : Int) (hx : Arr w (VR w) ks x F) (hF : Under w.heap.size F) (h0 : 0 ≤ left) (h1 : left ≤ 1048576) :
    Calls Try.prog 70 #[x, .int .i64 left] w fun e w' => e = .returned (.int .i64 (szLeft (V.sizes ks) left)) ∧ Below w.heap.size w w' := by
  have HX := Lib.hid hx
  obtain ⟨A, cap, rfl, hl, hm⟩ := hx.form
  clear hx
  have IH := Lib.hid ih
  clear ih
  have HF := Lib.hid hF
  clear hF
  by_cases hneg : left - (ks.length : Int) < 0
  · have hf : Hid (szLeft (V.sizes ks) left = -1) := by
      unfold szLeft; rw [V.sizes_eq]; exact if_neg (by omega)
    go_enter Try.func70, Try.ntmps70
    go_wp2
    go_ret
    exact ⟨ret_int hf.out.symm, Below.refl _ _⟩
  · have hpos : 0 ≤ left - (ks.length : Int) := by omega
    clear hneg
    go_enter Try.func70, Try.ntmps70
    go_wp2
    go_loopw [1, 5] (fun l i wr => ∃ k : Nat, ∃ m : Int, k ≤ ks.length ∧ i = .int .i64 k ∧ l = .int .i64 m ∧ 0 ≤ m ∧ m ≤ 1048576 ∧ Hid (m = left - ks.length - V.subs (ks.take k)) ∧ Below w.heap.size w wr) (fun _ i _ => ks.length - (intOf i).toNat)
    case atStart => exact ⟨0, _, Nat.zero_le _, rfl, rfl, hpos, by omega, by simp [Hid, V.subs], Below.refl _ _⟩
    case round =>
      obtain ⟨k, m, hk, rfl, rfl, hm0, hm1, HM, hB⟩ := hrel
      by_cases hlt : k < ks.length
      · obtain ⟨b, off, cs, G, rfl, hb, hcs, hv, hG⟩ := HX.out.get VR_len hlt
        have hbl := HF.out b hb
        have hGF := HF.out.sub hG
        have hv1 := hv.below hB hGF
        have hcs1 := hcs.same (hB.block b hbl)
        obtain ⟨kv, rfl, _⟩ := (VR_iff _ _ _).1 hv
        have c0 := hcs1 0 _ rfl
        have c1 := hcs1 1 _ rfl
        have c2 := hcs1 2 _ rfl
        simp only [Nat.add_zero] at c0
        clear hcs hcs1 hv hG
        have HV := Lib.hid hv1
        clear hv1
        have HG := Lib.hid hGF
        clear hGF
        go_wp2_with fail
        refine (IH.out _ (List.getElem_mem hlt) _ _ G m HV.out (HG.out.mono hB.size) hm0 hm1).mono ?_
        rintro e w' ⟨rfl, hB'⟩
        have hB2 := hB.trans (hB'.mono hB.size)
        by_cases hle : (ks[k].size : Int) ≤ m
        · have e1 : szLeft ks[k].size m = m - ks[k].size := if_pos hle
          rw [e1]
          have hs : Hid (m - ks[k].size = left - ks.length - V.subs (ks.take (k + 1))) := by
            have := HM.out; rw [V.subs_take_succ ks k hlt]; unfold Hid; omega
          have hnn : 0 ≤ m - (ks[k].size : Int) := by omega
          have hn1 : m - (ks[k].size : Int) ≤ 1048576 := by omega
          clear e1
          generalize m - (ks[k].size : Int) = m' at *
          go_wp2
          go_roundw
          case rel => exact ⟨k + 1, m', by omega, by go_num, rfl, hnn, hn1, hs, hB2⟩
          case measure => simp [intOf]; omega
        · have e1 : szLeft ks[k].size m = -1 := if_neg hle
          rw [e1]
          have hf : Hid (szLeft (V.sizes ks) left = -1) := by
            unfold szLeft; rw [V.sizes_eq]
            have := HM.out
            have h2 := V.subs_take_le ks (k + 1)
            rw [V.subs_take_succ ks k hlt] at h2
            exact if_neg (by omega)
          go_wp2
          go_ret
          exact ⟨ret_int hf.out.symm, hB2⟩
      · have hf : Hid (szLeft (V.sizes ks) left = m) := by
          have := HM.out
          rw [List.take_of_length_le (by omega)] at this
          unfold szLeft; rw [V.sizes_eq]
          unfold Hid
          rw [if_pos (by omega)]; omega
        go_wp2
        go_ret
        exact ⟨ret_int hf.out.symm, hB⟩

set_option maxHeartbeats 400000 in
theorem szValue_all : ∀ v, SzV v := V.ind fun c n ks ih w cs F left hv hF h0 h1 => by
  obtain ⟨kv, rfl, hk⟩ := (VR_iff _ _ _).1 hv
  have hf : Hid (szLeft (V.size ⟨c, n, ks⟩) left = szLeft (V.sizes ks) left) := rfl
  have IH := Lib.hid ih
  clear ih hv
  have HK := Lib.hid hk
  obtain ⟨A, cap, rfl, -, -⟩ := hk.form
  clear hk
  have HF := Lib.hid hF
  clear hF
  go_enter Try.func16, Try.ntmps16
  go_wp2_with fail
  refine (szValueS_of ks IH.out _ F _ left (ArrV.below HK.out ((Below.refl w.heap.size w).alloc (Nat.le_refl _) _) HF.out) (HF.out.mono (by simp)) h0 h1).mono ?_
  rintro e w' ⟨rfl, hB⟩
  have hB2 : Below w.heap.size w w' := ((Below.refl w.heap.size w).alloc (Nat.le_refl _) _).trans (hB.mono (by simp))
  have hneg : szLeft (V.sizes ks) left < 0 → szLeft (V.sizes ks) left = -1 := by unfold szLeft; split <;> omega
  generalize szLeft (V.sizes ks) left = m at *
  by_cases hm : m < 0
  · obtain rfl := hneg hm
    go_wp2
    go_ret
    exact ⟨ret_int hf.out.symm, hB2⟩
  · go_wp2
    go_ret
    exact ⟨ret_int hf.out.symm, hB2⟩
theorem szValue_any (v : V) (w : World) (cs : List Value) (F : List Nat) (left : Int) (hv : VR w v cs F) (hF : Under w.heap.size F) (h0 : 0 ≤ left) (h1 : left ≤ 1048576) :
    Calls Try.prog 16 #[.agg cs.toArray, .int .i64 left] w fun e w' => e = .returned (.int .i64 (szLeft v.size left)) ∧ Below w.heap.size w w' := szValue_all v w cs F left hv hF h0 h1
end Go.Proofs.Ytbffkgfhcmigaaa

namespace Go.Proofs.Ytbffkgfhcmigaaa
open Go.RowKit

theorem info_V : (Try.prog.info? 41).map (fun i => (i.zero, i.size, i.bytes)) = some (some (.agg #[.int .i64 0, .int .i64 0, .slice none 0 0]), 3, 40) := by kernel_rfl

/-- a copy has been made -/
def MadeV (w : World) (v : V) (e : Ending) (w' : World) : Prop := ∃ (cs : List Value) (F : List Nat), e = .returned (.agg cs.toArray) ∧ Below w.heap.size w w' ∧ VR w' v cs F ∧ Free w' F ∧ Fresh w w' F
def MadeVs (w : World) (vs : List V) (e : Ending) (w' : World) : Prop := ∃ (x : Value) (F : List Nat), e = .returned x ∧ Below w.heap.size w w' ∧ Arr w' (VR w') vs x F ∧ Free w' F ∧ Fresh w w' F

def ToV (v : V) : Prop := ∀ (w : World) (cs : List Value) (F : List Nat), VR w v cs F → Under w.heap.size F → v.size ≤ 1048576 →
  Calls Try.prog 20 #[.agg cs.toArray] w (MadeV w v)

set_option maxHeartbeats 400000 in
theorem toValueS_of (ks : List V) (ih : ∀ k ∈ ks, ToV k) (w : World) (F : List Nat) (x : Value) (hx : Arr w (VR w) ks x F) (hF : Under w.heap.size F) (hz : V.sizes ks ≤ 1048576) :
    Calls Try.prog 73 #[x] w (MadeVs w ks) := by
  have HX := Lib.hid hx
  obtain ⟨A, cap, rfl, hl, hm⟩ := hx.form
  clear hx
  have hn : ks.length ≤ 1048576 := by rw [V.sizes_eq] at hz; omega
  have IH := Lib.hid ih
  clear ih
  have HS := Lib.hid hF
  clear hF
  have HZ := Lib.hid hz
  clear hz
  obtain ⟨i0, hi, hz0, hz1, hz2⟩ := info_parts info_V
  have hmk := fun W => run_make_rowN (P := Try.prog) 39 41 i0 _ Try.underlying39 hi hz0 .i64 .i64 ks.length ks.length (Nat.le_refl _) (by rw [hz2]; omega) (by omega) W
  simp only [Value.cells, hz1] at hmk
  clear hi hz0 hz1 hz2
  generalize hC : madeCells #[.int .i64 0, .int .i64 0, .slice none 0 0] (ks.length * 3) = C at hmk
  have HC := Lib.hid hC
  clear hC
  go_enter Try.func73, Try.ntmps73
  go_wp2
  have HR0 := Lib.hid (show Row (w.alloc (.cells C 41)) w.heap.size 41 3 ks.length (VR (w.alloc (.cells C 41))) ([] : List V) [] from by
    rw [← HC.out]; exact Row.made w _ 3 ks.length _ _)
  have hB0 : Below w.heap.size w (w.alloc (.cells C 41)) := (Below.refl _ _).alloc (Nat.le_refl _) _
  go_loopw [4] (fun i wr => ∃ k : Nat, ∃ G : List Nat, k ≤ ks.length ∧ i = .int .i64 k ∧ Below w.heap.size w wr ∧ Hid (Row wr w.heap.size 41 3 ks.length (VR wr) (ks.take k) G ∧ Free wr G ∧ ∀ b ∈ G, w.heap.size < b ∧ b < wr.heap.size)) (fun i _ => ks.length - (intOf i).toNat)
  case atStart => exact ⟨0, [], Nat.zero_le _, rfl, hB0, ⟨HR0.out, Free.nil _, fun b hb => by cases hb⟩⟩
  case round =>
    obtain ⟨k, G, hk, rfl, hB, HR⟩ := hrel
    have hgs := HR.out.1.lt
    by_cases hlt : k < ks.length
    · obtain ⟨b, off, cs, H, rfl, hb, hcs, hv, hH⟩ := HX.out.get VR_len hlt
      have hbl := HS.out b hb
      have hHF := HS.out.sub hH
      have hv1 := hv.below hB hHF
      have hcs1 := hcs.same (hB.block b hbl)
      obtain ⟨kv, rfl, _⟩ := (VR_iff _ _ _).1 hv
      have c0 := hcs1 0 _ rfl
      have c1 := hcs1 1 _ rfl
      have c2 := hcs1 2 _ rfl
      simp only [Nat.add_zero] at c0
      clear hcs hcs1 hv hH
      have HV := Lib.hid hv1
      clear hv1
      have HG := Lib.hid hHF
      clear hHF
      go_wp2_with fail
      refine (IH.out _ (List.getElem_mem hlt) _ _ H HV.out (HG.out.mono hB.size) (by
        have h1 := HZ.out
        have h2 := V.size_lt ks k hlt
        omega)).mono ?_
      rintro e w' ⟨cs', H', rfl, hB', hv', hfr, hfs⟩
      obtain ⟨kv', rfl, ha'⟩ := (VR_iff _ _ _).1 hv'
      obtain ⟨A', cap', rfl, -, -⟩ := ha'.form
      have hGk : Kept G wr w' := .of_below hB' fun b hb => (HR.out.2.2 b hb).2
      have hR1 := HR.out.1.mono (w' := w') (R' := VR w') (hB'.block _ hgs) hGk (fun x _ => VR.mono x)
      have hn3 : k * 3 + 3 ≤ ks.length * 3 := by omega
      obtain ⟨⟨u0, d0⟩, f0⟩ := hR1.old (k * 3) (by omega)
      obtain ⟨⟨u1, d1⟩, f1⟩ := hR1.old (k * 3 + 1) (by omega)
      obtain ⟨⟨u2, d2⟩, f2⟩ := hR1.old (k * 3 + 2) (by omega)
      have HR1 := Lib.hid hR1
      clear hR1 ha'
      have hB3 := hB.trans (hB'.mono hB.size)
      have hg3 := putCells_grown w.heap.size [.int .i64 ks[k].c, .int .i64 ks[k].n, .slice A' ks[k].ks.length cap'] w' (k * 3)
      have hB4 := Lib.hid (hB3.grown hg3.1 hB3.size (fun _ h => by cases h; exact Nat.le_refl _))
      have hkH : Kept H' w' (putCells w' w.heap.size (k * 3) [.int .i64 ks[k].c, .int .i64 ks[k].n, .slice A' ks[k].ks.length cap']) := fun b hb => hg3.1.block b (hfs b hb).2 (fun e => by cases e; have := (hfs _ hb).1; omega)
      have hkG : Kept G w' (putCells w' w.heap.size (k * 3) [.int .i64 ks[k].c, .int .i64 ks[k].n, .slice A' ks[k].ks.length cap']) := fun b hb => hg3.1.block b (Nat.lt_of_lt_of_le (HR.out.2.2 b hb).2 hB'.size) (fun e => by cases e; have := (HR.out.2.2 _ hb).1; omega)
      have hR4 := Lib.hid (by
        have h := Row.store (R' := VR (putCells w' w.heap.size (k * 3) [.int .i64 ks[k].c, .int .i64 ks[k].n, .slice A' ks[k].ks.length cap'])) (x := ks[k]) (cs := [.int .i64 ks[k].c, .int .i64 ks[k].n, .slice A' ks[k].ks.length cap']) VR_len HR1.out rfl (by simp; omega) (fun hg => by have := (HR.out.2.2 _ hg).1; omega)
          (fun x _ ds H hk h => VR.mono x ds H (by rw [show (ks.take k).length = k by simp; omega] at hk; exact hk) h)
          (VR.mono _ _ _ hkH hv')
        rw [show (ks.take k).length = k by simp; omega] at h
        rw [← take_snoc' ks k hlt] at h
        exact (And.intro h (And.intro (show Free (putCells w' w.heap.size (k * 3) [.int .i64 ks[k].c, .int .i64 ks[k].n, .slice A' ks[k].ks.length cap']) (G ++ H') from
          ⟨List.nodup_append.2 ⟨HR.out.2.1.1, hfr.1, fun a ha c hc hac => by
              subst hac
              have := (HR.out.2.2 _ ha).2
              have := (hfs _ hc).1
              omega⟩,
           fun b hb i => by
            rcases List.mem_append.1 hb with hb | hb
            · exact ((HR.out.2.1.kept hGk).kept hkG).2 b hb i
            · exact (hfr.kept hkH).2 b hb i⟩)
          (show ∀ b ∈ G ++ H', w.heap.size < b ∧ b < (putCells w' w.heap.size (k * 3) [.int .i64 ks[k].c, .int .i64 ks[k].n, .slice A' ks[k].ks.length cap']).heap.size from fun b hb => by
            rw [hg3.2]
            rcases List.mem_append.1 hb with hb | hb
            · exact ⟨(HR.out.2.2 b hb).1, Nat.lt_of_lt_of_le (HR.out.2.2 b hb).2 hB'.size⟩
            · exact ⟨Nat.lt_of_lt_of_le hgs (hfs b hb).1, (hfs b hb).2⟩))))
      clear hg3 HR1 hv' hfr hfs hkH hkG hGk hB3 hB' HR HV
      go_wp2
      go_roundw
      case rel => exact ⟨k + 1, _, by omega, by go_num, hB4.out, hR4.out⟩
      case measure => simp [intOf]; omega
    · have hfin : MadeVs w ks (.returned (.slice (some ⟨w.heap.size, 0, none⟩) ks.length ks.length)) wr := by
        obtain ⟨h, hf, hb⟩ := HR.out
        rw [List.take_of_length_le (by omega)] at h
        have hng : w.heap.size ∉ G := fun hg => by have := (hb _ hg).1; omega
        obtain ⟨G', h1, h2⟩ := h.arr rfl (by unfold maxLen; omega)
        refine ⟨_, G', rfl, hB, h1, ?_, ?_⟩
        · rcases h2 with rfl | rfl
          · exact h.free hf hng
          · exact Free.nil _
        · rcases h2 with rfl | rfl
          · intro b hb'
            rcases List.mem_cons.1 hb' with rfl | hb'
            · exact ⟨Nat.le_refl _, hgs⟩
            · exact ⟨Nat.le_of_lt (hb b hb').1, (hb b hb').2⟩
          · exact Fresh.nil _ _
      have HFin := Lib.hid hfin
      clear hfin
      go_wp2
      go_ret
      exact HFin.out

set_option maxHeartbeats 400000 in
theorem toValue_all : ∀ v, ToV v := V.ind fun c n ks ih w cs F hv hF hz => by
  obtain ⟨kv, rfl, hk⟩ := (VR_iff _ _ _).1 hv
  have hz' : V.sizes ks ≤ 1048576 := hz
  have IH := Lib.hid ih
  clear ih hv
  have HK := Lib.hid hk
  obtain ⟨A, cap, rfl, -, -⟩ := hk.form
  clear hk
  have HS := Lib.hid hF
  clear hF
  go_enter Try.func20, Try.ntmps20
  go_wp2_with fail
  obtain ⟨W3, hW3⟩ : ∃ W3, W3 = (((w.alloc (Obj.cells #[Value.int IntKind.i64 c, Value.int IntKind.i64 n, Value.slice A ks.length cap] 27)).alloc
          (Obj.cells #[Value.int IntKind.i64 0, Value.int IntKind.i64 0, Value.slice none 0 0] 41)).alloc
      (Obj.cells #[Value.int IntKind.i64 c, Value.int IntKind.i64 n, Value.slice none 0 0] 41)) := ⟨_, rfl⟩
  have hB3 : Below w.heap.size w W3 := by rw [hW3]; exact (((Below.refl _ _).alloc (Nat.le_refl _) _).alloc (by simp) _).alloc (by simp; omega) _
  have hsz : W3.heap.size = w.heap.size + 3 := by rw [hW3]; simp
  have b1 : Blk W3 (w.heap.size + 1) 41 #[Value.int IntKind.i64 0, Value.int IntKind.i64 0, Value.slice none 0 0] := by
    rw [hW3]
    have := Blk.new (w.alloc (Obj.cells #[Value.int IntKind.i64 c, Value.int IntKind.i64 n, Value.slice A ks.length cap] 27)) 41 #[Value.int IntKind.i64 0, Value.int IntKind.i64 0, Value.slice none 0 0]
    rw [World.size_alloc] at this
    exact this.same (Below.heap_alloc _ _ _ (by simp))
  have b2 : Blk W3 (w.heap.size + 2) 41 #[Value.int IntKind.i64 c, Value.int IntKind.i64 n, Value.slice none 0 0] := by
    rw [hW3]
    have := Blk.new ((w.alloc (Obj.cells #[Value.int IntKind.i64 c, Value.int IntKind.i64 n, Value.slice A ks.length cap] 27)).alloc (Obj.cells #[Value.int IntKind.i64 0, Value.int IntKind.i64 0, Value.slice none 0 0] 41)) 41 #[Value.int IntKind.i64 c, Value.int IntKind.i64 n, Value.slice none 0 0]
    simpa using this
  rw [← hW3]
  clear hW3
  refine (toValueS_of ks IH.out W3 F _ (ArrV.below HK.out hB3 HS.out) (HS.out.mono (by omega)) hz').mono ?_
  rintro e w' ⟨x, G, rfl, hB, hx, hfr, hfs⟩
  obtain ⟨A', cap', rfl, -, -⟩ := hx.form
  have hgs := hB.size
  have k1 := b1.same (hB.block (w.heap.size + 1) (by omega))
  have k2 := b2.same (hB.block (w.heap.size + 2) (by omega))
  have d0 := k1.cell 0
  have d1 := k1.cell 1
  have d2 := k1.cell 2
  have f0 := k1.frozen 0
  have f1 := k1.frozen 1
  have f2 := k1.frozen 2
  have e0 := k2.cell 0
  have e1 := k2.cell 1
  have e2 := k2.cell 2
  have g0 := k2.frozen 0
  have g1 := k2.frozen 1
  have g2 := k2.frozen 2
  simp only [List.getElem?_toArray, List.getElem?_cons_zero, List.getElem?_cons_succ] at d0 d1 d2 e0 e1 e2
  have hX := Lib.hid hx
  have hFr := Lib.hid hfr
  have hFs := Lib.hid hfs
  clear hx k1 k2 b1 b2 hfr hfs
  go_wp2
  refine bodyPost_ret (v := .agg #[.int .i64 c, .int .i64 n, .slice A' ks.length cap']) (by simp [results, Try.results20, go_sem, d0, d1, d2]) rfl ?_
  have hkeep : Kept G w' ((((w'.setCell ⟨w.heap.size + 1 + 1, 2, none⟩ (.slice A' ks.length cap')).setCell ⟨w.heap.size + 1, 0, none⟩ (.int .i64 c)).setCell ⟨w.heap.size + 1, 1, none⟩ (.int .i64 n)).setCell ⟨w.heap.size + 1, 2, none⟩ (.slice A' ks.length cap')) := fun b hb => by
    have h1 := (hFs.out b hb).1
    rw [Below.heap_setCell _ _ _ _ (by simp; omega), Below.heap_setCell _ _ _ _ (by simp; omega), Below.heap_setCell _ _ _ _ (by simp; omega), Below.heap_setCell _ _ _ _ (by simp; omega)]
  refine ⟨[.int .i64 c, .int .i64 n, .slice A' ks.length cap'], G, rfl, (((((hB3.trans (hB.mono (by omega))).setCell (by simp; omega) _).setCell (by simp) _).setCell (by simp) _).setCell (by simp) _), ?_, hFr.out.kept hkeep, fun b hb => ⟨by have := (hFs.out b hb).1; omega, by simpa [World.setCell] using (hFs.out b hb).2⟩⟩
  rw [VR_iff]
  exact ⟨_, rfl, ArrV.mono hX.out hkeep⟩

theorem toValueS_any (ks : List V) (w : World) (F : List Nat) (x : Value) (hx : Arr w (VR w) ks x F) (hF : Under w.heap.size F) (hz : V.sizes ks ≤ 1048576) :
    Calls Try.prog 73 #[x] w (MadeVs w ks) := toValueS_of ks (fun k _ => toValue_all k) w F x hx hF hz
theorem toValue_any (v : V) (w : World) (cs : List Value) (F : List Nat) (hv : VR w v cs F) (hF : Under w.heap.size F) (hz : v.size ≤ 1048576) :
    Calls Try.prog 20 #[.agg cs.toArray] w (MadeV w v) := toValue_all v w cs F hv hF hz
end Go.Proofs.Ytbffkgfhcmigaaa

namespace Go.Proofs.Ytbffkgfhcmigaaa
open Go.RowKit

def EqV (v : V) : Prop := ∀ (w : World) (cs ds : List Value) (F G : List Nat), VR w v cs F → VR w v ds G → Under w.heap.size F → Under w.heap.size G →
  Calls Try.prog 24 #[.agg cs.toArray, .agg ds.toArray] w fun e w' => e = .returned (.bool true) ∧ Below w.heap.size w w'

set_option maxHeartbeats 400000 in
theorem eqValueS_of (ks : List V) (ih : ∀ k ∈ ks, EqV k) (w : World) (F G : List Nat) (x y : Value) (hx : Arr w (VR w) ks x F) (hy : Arr w (VR w) ks y G) (hF : Under w.heap.size F) (hG : Under w.heap.size G) :
    Calls Try.prog 77 #[x, y] w fun e w' => e = .returned (.bool true) ∧ Below w.heap.size w w' := by
  have HX := Lib.hid hx
  have HY := Lib.hid hy
  obtain ⟨A, cap, rfl, hl, hm⟩ := hx.form
  obtain ⟨A', cap', rfl, hl', hm'⟩ := hy.form
  clear hx hy
  have IH := Lib.hid ih
  clear ih
  have HF := Lib.hid hF
  have HG := Lib.hid hG
  clear hF hG
  go_enter Try.func77, Try.ntmps77
  go_wp2
  go_loopw [5] (fun i wr => ∃ k : Nat, k ≤ ks.length ∧ i = .int .i64 k ∧ Below w.heap.size w wr) (fun i _ => ks.length - (intOf i).toNat)
  case atStart => exact ⟨0, Nat.zero_le _, rfl, Below.refl _ _⟩
  case round =>
    obtain ⟨k, hk, rfl, hB⟩ := hrel
    by_cases hlt : k < ks.length
    · obtain ⟨b, off, cs, F1, rfl, hb, hcs, hv, hF1⟩ := HX.out.get VR_len hlt
      obtain ⟨b', off', ds, G1, rfl, hb', hds, hv', hG1⟩ := HY.out.get VR_len hlt
      have hv1 := hv.below hB (HF.out.sub hF1)
      have hv2 := hv'.below hB (HG.out.sub hG1)
      have hcs1 := hcs.same (hB.block b (HF.out b hb))
      have hds1 := hds.same (hB.block b' (HG.out b' hb'))
      obtain ⟨kv, rfl, _⟩ := (VR_iff _ _ _).1 hv
      obtain ⟨kv', rfl, _⟩ := (VR_iff _ _ _).1 hv'
      have c0 := hcs1 0 _ rfl
      have c1 := hcs1 1 _ rfl
      have c2 := hcs1 2 _ rfl
      have d0 := hds1 0 _ rfl
      have d1 := hds1 1 _ rfl
      have d2 := hds1 2 _ rfl
      simp only [Nat.add_zero] at c0 d0
      clear hcs hcs1 hv hds hds1 hv'
      have HV := Lib.hid hv1
      have HV2 := Lib.hid hv2
      have HF1 := Lib.hid (HF.out.sub hF1)
      have HG1 := Lib.hid (HG.out.sub hG1)
      clear hv1 hv2 hF1 hG1
      go_wp2_with fail
      go_region_with (go_at_call 24; refine (IH.out _ (List.getElem_mem hlt) _ _ _ F1 G1 HV.out.drew HV2.out.drew (HF1.out.mono hB.size) (HG1.out.mono hB.size)).mono ?_; rintro e w' ⟨rfl, hB'⟩)
      all_goals
        have hB2 := hB.drew.trans (hB'.mono hB.size)
        go_wp2
        go_roundw
        case rel => exact ⟨k + 1, by omega, by go_num, hB2⟩
        case measure => simp [intOf]; omega
    · go_wp2
      go_ret
      exact ⟨rfl, hB⟩

set_option maxHeartbeats 400000 in
theorem eqValue_all : ∀ v, EqV v := V.ind fun c n ks ih w cs ds F G hv hv' hF hG => by
  obtain ⟨kv, rfl, hk⟩ := (VR_iff _ _ _).1 hv
  obtain ⟨kv', rfl, hk'⟩ := (VR_iff _ _ _).1 hv'
  have IH := Lib.hid ih
  clear ih hv hv'
  have HK := Lib.hid hk
  have HK' := Lib.hid hk'
  obtain ⟨A, cap, rfl, -, -⟩ := hk.form
  obtain ⟨A', cap', rfl, -, -⟩ := hk'.form
  clear hk hk'
  have HF := Lib.hid hF
  have HG := Lib.hid hG
  clear hF hG
  have hc0 : (c != c) = false := by simp
  have hn0 : (n != n) = false := by simp
  go_enter Try.func24, Try.ntmps24
  go_wp2_with fail
  obtain ⟨W2, hW2⟩ : ∃ W2, W2 = ((w.alloc (Obj.cells #[Value.int IntKind.i64 c, Value.int IntKind.i64 n, Value.slice A ks.length cap] 41)).alloc
          (Obj.cells #[Value.int IntKind.i64 c, Value.int IntKind.i64 n, Value.slice A' ks.length cap'] 41)) := ⟨_, rfl⟩
  have hB2 : Below w.heap.size w W2 := by rw [hW2]; exact ((Below.refl _ _).alloc (Nat.le_refl _) _).alloc (by simp) _
  rw [← hW2]
  clear hW2
  refine (eqValueS_of ks IH.out _ F G _ _ (ArrV.below HK.out hB2 HF.out) (ArrV.below HK'.out hB2 HG.out) (HF.out.mono hB2.size) (HG.out.mono hB2.size)).mono ?_
  rintro e w' ⟨rfl, hB'⟩
  have hB3 := hB2.trans (hB'.mono hB2.size)
  go_wp2
  go_ret
  exact ⟨rfl, hB3⟩

theorem eqValueS_any (ks : List V) (w : World) (F G : List Nat) (x y : Value) (hx : Arr w (VR w) ks x F) (hy : Arr w (VR w) ks y G) (hF : Under w.heap.size F) (hG : Under w.heap.size G) :
    Calls Try.prog 77 #[x, y] w fun e w' => e = .returned (.bool true) ∧ Below w.heap.size w w' := eqValueS_of ks (fun k _ => eqValue_all k) w F G x y hx hy hF hG
theorem eqValue_any (v : V) (w : World) (cs ds : List Value) (F G : List Nat) (hx : VR w v cs F) (hy : VR w v ds G) (hF : Under w.heap.size F) (hG : Under w.heap.size G) :
    Calls Try.prog 24 #[.agg cs.toArray, .agg ds.toArray] w fun e w' => e = .returned (.bool true) ∧ Below w.heap.size w w' := eqValue_all v w cs ds F G hx hy hF hG
end Go.Proofs.Ytbffkgfhcmigaaa

namespace Go.Proofs.Ytbffkgfhcmigaaa
open Go.RowKit

mutual
def patOf : V → P
  | ⟨c, n, ks⟩ => if c = -1 then ⟨3, 0, n, n, 0, []⟩ else ⟨4, c, 0, 0, 0, patOfs ks⟩
def patOfs : List V → List P
  | [] => []
  | k :: ks => patOf k :: patOfs ks
end
theorem patOfs_eq (l : List V) : patOfs l = l.map patOf := by
  induction l with
  | nil => rfl
  | cons k l ih => rw [patOfs, ih]; rfl
theorem patOf_num {v : V} (h : v.c = -1) : patOf v = ⟨3, 0, v.n, v.n, 0, []⟩ := by
  obtain ⟨c, n, ks⟩ := v
  rw [patOf]; exact if_pos h
theorem patOf_ctor {v : V} (h : ¬ v.c = -1) : patOf v = ⟨4, v.c, 0, 0, 0, v.ks.map patOf⟩ := by
  obtain ⟨c, n, ks⟩ := v
  rw [patOf, patOfs_eq]; exact if_neg h
def patTo (ks : List V) (i : Nat) : List P := (ks.take i).map patOf
theorem patTo_succ (ks : List V) (i : Nat) (h : i < ks.length) : patTo ks (i + 1) = patTo ks i ++ [patOf ks[i]] := by
  unfold patTo
  rw [take_snoc' ks i h, List.map_append]; rfl
theorem patTo_all (ks : List V) {i : Nat} (h : ks.length ≤ i) : patTo ks i = ks.map patOf := by unfold patTo; rw [List.take_of_length_le h]
theorem patTo_len (ks : List V) (i : Nat) : (patTo ks i).length ≤ i := by unfold patTo; rw [List.length_map, List.length_take]; omega
end Go.Proofs.Ytbffkgfhcmigaaa

namespace Go.Proofs.Ytbffkgfhcmigaaa
open Go.RowKit

theorem chg_under {F : List Nat} {a b c : World} (h : Chg F a b) (k : Below a.heap.size b c) : Chg F a c :=
  ⟨k.os.trans h.os, k.tape.trans h.tape, k.output.trans h.output, Nat.le_trans h.size k.size, fun i hi hF => (k.block i hi).trans (h.block i hi hF)⟩
theorem free_app {w : World} {F G : List Nat} (hF : Free w F) (hG : Free w G) (hd : ∀ b ∈ F, b ∉ G) : Free w (F ++ G) :=
  ⟨List.nodup_append.2 ⟨hF.1, hG.1, fun a ha b hb e => hd a ha (by rw [e]; exact hb)⟩, fun b hb i => by
    rcases List.mem_append.1 hb with h | h
    · exact hF.2 b h i
    · exact hG.2 b h i⟩
section
variable {α : Type} {w w9 wr wA w7 : World} {D H k : Nat} {T E : TypeId} {cells : Array Value} {R : World → α → List Value → List Nat → Prop} {xs ys : List α} {v v' : Value} {F G : List Nat} {o : Obj}
theorem kid_old (HO : Own wr (D + 1) E k R xs v F) (hBu : Below wr.heap.size wr wA) (hgr : (wA.alloc o).grownBy w7 v.ownBlock) {b : Nat} (hb : b < D + 1) (hbr : b < wr.heap.size) : w7.heap[b]? = wr.heap[b]? := by
  have hl : b < wA.heap.size := Nat.lt_of_lt_of_le hbr hBu.size
  refine ((hgr.block b (by rw [World.size_alloc]; omega) (fun e => ?_)).trans (Below.heap_alloc _ _ _ hl)).trans (hBu.block b hbr)
  have := (HO.row b (mem_rowOf.2 e.symm)).1
  omega
theorem kid_round (j : Nat) (hRm : ∀ w w' x cs G, Kept G w w' → R w x cs G → R w' x cs G) (hw9 : w9.heap.size = D + 1) (KD : Blk wr D T cells) (HO : Own wr (D + 1) E k R xs v F) (HF : Free wr F) (HFh : ∀ b ∈ F, D + 1 ≤ b) (HC : Chg [D] w9 wr) (hB : Below H w wr) (hHD : H ≤ D) (hw : H ≤ w.heap.size)
    (hBu : Below wr.heap.size wr wA) (hfrA : Free wA G) (hfsA : ∀ b ∈ G, wr.heap.size ≤ b ∧ b < wA.heap.size) (hown : Own w7 (D + 1) E k R ys v' (F ++ G)) (hgr : (wA.alloc o).grownBy w7 v.ownBlock) :
    Blk (w7.setCell ⟨D, j, none⟩ v') D T (cells.setIfInBounds j v') ∧ Own (w7.setCell ⟨D, j, none⟩ v') (D + 1) E k R ys v' (F ++ G) ∧ Free (w7.setCell ⟨D, j, none⟩ v') (F ++ G) ∧ (∀ b ∈ F ++ G, D + 1 ≤ b) ∧ Chg [D] w9 (w7.setCell ⟨D, j, none⟩ v') ∧ Below H w (w7.setCell ⟨D, j, none⟩ v') ∧ w9.heap.size ≤ (w7.setCell ⟨D, j, none⟩ v').heap.size := by
  have hlt := KD.lt
  have hA := hBu.size
  have hFG : ∀ b ∈ F ++ G, D + 1 ≤ b := fun b hb => by
    rcases List.mem_append.1 hb with h | h
    · exact HFh b h
    · have := (hfsA b h).1; omega
  have hBA7 : Below (D + 1) wA w7 := ((Below.refl (D + 1) wA).alloc (by omega) o).grown hgr (by rw [World.size_alloc]; omega) (fun g hg => (HO.row g (mem_rowOf.2 hg)).1)
  have hC7 : Chg [D] w9 w7 := chg_under (HC.step hBu) (by rw [hw9]; exact hBA7)
  have hC8 : Chg [D] w9 (w7.setCell ⟨D, j, none⟩ v') := hC7.set (by simp)
  have hne : ∀ b ∈ F ++ G, b ≠ D := fun b hb e => by have := hFG b hb; omega
  refine ⟨?_, Own.set (j := j) hRm hown v' (fun h => by have := (hown.row _ h).1; omega) (fun h => hne _ h rfl), ?_, hFG, hC8, ?_, hC8.size⟩
  · exact (KD.same (kid_old HO hBu hgr (Nat.lt_succ_self D) hlt)).set_ j v'
  · have hfr : Free wA (F ++ G) := free_app (HF.kept (.of_below hBu HO.under)) hfrA (fun b hb hG => by have h1 := HO.under b hb; have h2 := (hfsA b hG).1; omega)
    have hfr7 : Free w7 (F ++ G) := hfr.kept fun b hb => by
      have hbA : b < wA.heap.size := by
        rcases List.mem_append.1 hb with h | h
        · exact Nat.lt_of_lt_of_le (HO.under b h) hA
        · exact (hfsA b h).2
      refine (hgr.block b (by rw [World.size_alloc]; omega) (fun e => ?_)).trans (Below.heap_alloc _ _ _ hbA)
      have hrw := mem_rowOf.2 e.symm
      rcases List.mem_append.1 hb with h | h
      · exact HO.apart b hrw h
      · have h1 := (HO.row b hrw).2
        have h2 := (hfsA b h).1
        omega
    exact hfr7.kept fun b hb => Below.heap_setCell w7 ⟨D, j, none⟩ v' b (hne b hb)
  · have h8 : Below H w w7 := (hB.trans (hBu.mono (Nat.le_trans hw hB.size))).trans (hBA7.mono (by omega))
    exact h8.setCell hHD _
/-- the finished row of kids -/
theorem kid_done (HO : Own wr D E k R xs v F) (HF : Free wr F) (HFh : ∀ b ∈ F, D ≤ b) (hHD : H ≤ D) : ∃ FF, Arr wr (R wr) xs v FF ∧ Free wr FF ∧ ∀ b ∈ FF, H ≤ b ∧ b < wr.heap.size :=
  ⟨_, HO.arr, HO.free HF, fun b hb => by
    split at hb
    · cases hb
    · rcases List.mem_append.1 hb with h | h
      · have := HO.row b h; omega
      · have := HFh b h; have := HO.under b h; omega⟩
end
end Go.Proofs.Ytbffkgfhcmigaaa

namespace Go.Proofs.Ytbffkgfhcmigaaa
open Go.RowKit

section
variable {α : Type} {w w' : World} {B k : Nat} {E : TypeId} {R : World → α → List Value → List Nat → Prop} {xs : List α} {v : Value} {F : List Nat}
variable {P : Program}
theorem step_push {ops : Array Oper} {o : Oper} {a : Act} {K : Act → World → Prop} {Q : Exit → Act → World → Prop} {EE : Prop} (hgd : o.guard = none) (s x : Operand) (t : TypeId)
    (ho : o.op = .call { callee := .builtin .append, args := #[s, x], argTypes := #[t, t] })
    (i : TypeInfo) (z : Value) (bytes : Nat) (ht : P.underlying t = some (.slice E)) (hi : P.info? E = some i) (hz : i.zero = some z)
    (hsize : i.size = k) (hby : i.bytes = bytes) (hzs : z.cells.size = k) (hk : 0 < k)
    (hRl : ∀ x cs G, R w x cs G → cs.length = k) (hRm : ∀ w' x cs G, Kept G w w' → R w x cs G → R w' x cs G)
    (hs : a.eval s = v) (hown : Own w B E k R xs v F) (ys : List α) (ad : Addr) (c : Nat) (news : List Value) (G : List Nat)
    (hx : a.eval x = .slice (some ad) ys.length c) (hnews : ∀ j u, news[j]? = some u → w.cell? (ad.add j) = some u) (h1 : ∀ u ∈ news, u.oneCell' = true)
    (hys : Flat (R w) ys news G) (hG : Under w.heap.size G) (hvG : ∀ g ∈ rowOf v, g ∉ G)
    (hm : 0 < ys.length) (h63 : xs.length + ys.length ≤ maxLen) (hbytes : (xs.length + ys.length) * bytes ≤ 140737488355328) (hbase : B ≤ w.heap.size)
    (h : ∀ g cap w', Own w' B E k R (xs ++ ys) (.slice (some ⟨g, 0, none⟩) (xs.length + ys.length) cap) (F ++ G) → w.grownBy w' v.ownBlock → (v.ownBlock = some g ∨ g = w.heap.size) →
      K (a.put o.dst (.slice (some ⟨g, 0, none⟩) (xs.length + ys.length) cap)) w') : if Region.wanted o (yielded ops a.tmps) = true then Oper.wp P o a w K Q else EE := by
  obtain ⟨cs, h2, h3, h4, h5⟩ := id hown
  refine step_append_lies w hgd s x t ho B E i z k bytes ht hi hz hsize hby hzs hk v xs.length cs hs h2 ad ys.length c news hx (hys.length hRl) hnews h1 hm h63 hbytes hbase w.heap.size rfl
    fun g cap w1 hr hgr hat hlt => h g cap w1 ⟨cs ++ news, by rw [List.length_append]; exact hr, ?_, ?_, ?_⟩ hgr hat
  · exact (h3.mono fun x _ ds H hH hr => hRm w1 x ds H (grown_kept hgr (h4.sub hH) fun g hg hn => h5 g hg (hH g hn)) hr).append (hys.mono fun x _ ds H hH hr => hRm w1 x ds H (grown_kept hgr (hG.sub hH) fun g hg hn => hvG g hg (hH g hn)) hr)
  · intro b hb
    rcases List.mem_append.1 hb with hb | hb
    · exact Nat.lt_of_lt_of_le (h4 b hb) hgr.size
    · exact Nat.lt_of_lt_of_le (hG b hb) hgr.size
  · intro b hb hbF
    rw [rowOf_some, List.mem_singleton] at hb
    subst hb
    rcases hat with hat | rfl
    · rcases List.mem_append.1 hbF with hb | hb
      · exact h5 b (mem_rowOf.2 hat) hb
      · exact hvG b (mem_rowOf.2 hat) hb
    · rcases List.mem_append.1 hbF with hb | hb
      · exact Nat.lt_irrefl _ (h4 _ hb)
      · exact Nat.lt_irrefl _ (hG _ hb)


theorem step_push1 {ops : Array Oper} {o : Oper} {a : Act} {K : Act → World → Prop} {Q : Exit → Act → World → Prop} {EE : Prop} (hgd : o.guard = none) (s x : Operand) (t : TypeId)
    (ho : o.op = .call { callee := .builtin .append, args := #[s, x], argTypes := #[t, t] })
    (i : TypeInfo) (z : Value) (bytes : Nat) (ht : P.underlying t = some (.slice E)) (hi : P.info? E = some i) (hz : i.zero = some z)
    (hsize : i.size = k) (hby : i.bytes = bytes) (hzs : z.cells.size = k) (hk : 0 < k)
    (hRl : ∀ w x cs G, R w x cs G → cs.length = k) (hRm : ∀ w w' x cs G, Kept G w w' → R w x cs G → R w' x cs G)
    (hs : a.eval s = v) (hown : Own w B E k R xs v F) (y : α) (T : TypeId) (news : List Value) (G : List Nat)
    (H : Nat) (hx : a.eval x = .slice (some ⟨H, 0, none⟩) 1 1) (hH : w.heap.size = H) (h1 : ∀ u ∈ news, u.oneCell' = true)
    (hy : R w y news G) (hG : Under w.heap.size G) (hvG : ∀ g ∈ rowOf v, g ∉ G)
    (h63 : xs.length + 1 ≤ maxLen) (hbytes : (xs.length + 1) * bytes ≤ 140737488355328) (hbase : B ≤ w.heap.size)
    (h : ∀ g cap w', Own w' B E k R (xs ++ [y]) (.slice (some ⟨g, 0, none⟩) (xs.length + 1) cap) (F ++ G) → (w.alloc (.cells news.toArray T)).grownBy w' v.ownBlock → (v.ownBlock = some g ∨ g = w.heap.size + 1) →
      K (a.put o.dst (.slice (some ⟨g, 0, none⟩) (xs.length + 1) cap)) w') : if Region.wanted o (yielded ops a.tmps) = true then Oper.wp P o a (w.alloc (.cells news.toArray T)) K Q else EE := by
  subst hH
  have hb := (Below.refl w.heap.size w).alloc (Nat.le_refl _) (.cells news.toArray T)
  have hk1 : Kept G w (w.alloc (.cells news.toArray T)) := .of_below hb hG
  refine step_push hgd s x t ho i z bytes ht hi hz hsize hby hzs hk (hRl _) (fun w' => hRm _ w') hs (hown.below (fun x cs G hk h => hRm _ _ x cs G hk h) hb) [y] ⟨w.heap.size, 0, none⟩ 1 news G hx ?_ h1 (Flat.one (hRm _ _ _ _ _ hk1 hy)) (hG.mono hb.size) hvG Nat.zero_lt_one h63 hbytes (Nat.le_trans hbase hb.size)
    (fun g cap w' h2 h3 h4 => h g cap w' h2 h3 (by simpa using h4))
  intro j u hj
  exact World.news_of_block (heap_alloc_new w (.cells news.toArray T)) j u (by simpa using hj)
end
end Go.Proofs.Ytbffkgfhcmigaaa

namespace Go.Proofs.Ytbffkgfhcmigaaa
open Go.RowKit

theorem results_cell_row {P : Program} {fn : Func} {p : Tmp} {ty : TypeId} (h : fn.results = #[.cell p ty]) (tmps : Array Value) (w : World) (g : Nat) (t : TypeId) (cs : Array Value) (fr : Nat × Nat) (d : TypeDesc)
    (hp : tmps.getD p undef = .pointer (some ⟨g, 0, none⟩)) (hg : w.heap[g]? = some (.cells cs t fr))
    (hu : P.underlying ty = some d) (hd : (match d with | .struct _ | .array _ _ => true | _ => false) = true) (hi : (P.info? ty).map (·.size) = some cs.size) :
    (results fn tmps).run P w = .ok (.agg cs) w := by
  have hp' : tmps[p]?.getD undef = .pointer (some ⟨g, 0, none⟩) := by simpa using hp
  simp [results, h, hp', asAddr, run_loadVar_row w g t ty cs fr d hg hu hd hi]
theorem results_cell_tmp {P : Program} {fn : Func} {p v : Tmp} {ty : TypeId} (h : fn.results = #[.cell p ty, .tmp v]) (tmps : Array Value) (w : World) (g : Nat) (t : TypeId) (cs : Array Value) (fr : Nat × Nat) (d : TypeDesc)
    (hp : tmps.getD p undef = .pointer (some ⟨g, 0, none⟩)) (hg : w.heap[g]? = some (.cells cs t fr))
    (hu : P.underlying ty = some d) (hd : (match d with | .struct _ | .array _ _ => true | _ => false) = true) (hi : (P.info? ty).map (·.size) = some cs.size) :
    (results fn tmps).run P w = .ok (.tuple #[.agg cs, tmps.getD v undef]) w := by
  have hp' : tmps[p]?.getD undef = .pointer (some ⟨g, 0, none⟩) := by simpa using hp
  simp [results, h, hp', asAddr, run_loadVar_row w g t ty cs fr d hg hu hd hi]
theorem blk_second (w : World) (o : Obj) (T : TypeId) (C : Array Value) : Blk ((w.alloc o).alloc (.cells C T)) (w.heap.size + 1) T C := by
  have h := Blk.new (w.alloc o) T C
  rw [World.size_alloc] at h
  exact h
section
variable {w w0 : World} {H B : Nat} {T : TypeId} {F : List Nat}
theorem Blk.six {b0 b1 b2 b3 b4 b5 : Value} (h : Blk w H T #[b0, b1, b2, b3, b4, b5]) (a0 a1 a2 a3 a4 a5 : Value) : Blk ((((((w.setCell ⟨H, 0, none⟩ a0).setCell ⟨H, 1, none⟩ a1).setCell ⟨H, 2, none⟩ a2).setCell ⟨H, 3, none⟩ a3).setCell ⟨H, 4, none⟩ a4).setCell ⟨H, 5, none⟩ a5) H T #[a0, a1, a2, a3, a4, a5] := (((((h.set_ 0 a0).set_ 1 a1).set_ 2 a2).set_ 3 a3).set_ 4 a4).set_ 5 a5
theorem below_six (h : Below B w0 w) (hH : B ≤ H) (a0 a1 a2 a3 a4 a5 : Value) : Below B w0 ((((((w.setCell ⟨H, 0, none⟩ a0).setCell ⟨H, 1, none⟩ a1).setCell ⟨H, 2, none⟩ a2).setCell ⟨H, 3, none⟩ a3).setCell ⟨H, 4, none⟩ a4).setCell ⟨H, 5, none⟩ a5) := (((((h.setCell hH _).setCell hH _).setCell hH _).setCell hH _).setCell hH _).setCell hH _
theorem kept_six (hF : ∀ b ∈ F, b ≠ H) (a0 a1 a2 a3 a4 a5 : Value) : Kept F w ((((((w.setCell ⟨H, 0, none⟩ a0).setCell ⟨H, 1, none⟩ a1).setCell ⟨H, 2, none⟩ a2).setCell ⟨H, 3, none⟩ a3).setCell ⟨H, 4, none⟩ a4).setCell ⟨H, 5, none⟩ a5) := fun b hb => by
  have := hF b hb
  rw [Below.heap_setCell _ _ _ _ this, Below.heap_setCell _ _ _ _ this, Below.heap_setCell _ _ _ _ this, Below.heap_setCell _ _ _ _ this, Below.heap_setCell _ _ _ _ this, Below.heap_setCell _ _ _ _ this]
theorem size_six (a0 a1 a2 a3 a4 a5 : Value) : ((((((w.setCell ⟨H, 0, none⟩ a0).setCell ⟨H, 1, none⟩ a1).setCell ⟨H, 2, none⟩ a2).setCell ⟨H, 3, none⟩ a3).setCell ⟨H, 4, none⟩ a4).setCell ⟨H, 5, none⟩ a5).heap.size = w.heap.size := by simp [World.setCell]
end

theorem info_PE : (Try.prog.info? 32).map (fun i => (i.zero, i.size, i.bytes)) = some (some (.agg #[.int .i64 0, .int .i64 0, .int .i64 0, .int .i64 0, .int .i64 0, .slice none 0 0]), 6, 64) := by kernel_rfl
theorem PR_mono' (w w' : World) (x : P) (cs : List Value) (G : List Nat) (hk : Kept G w w') (h : PR w x cs G) : PR w' x cs G := PR.mono x cs G hk h
theorem PR_len' (w : World) (x : P) (cs : List Value) (G : List Nat) (h : PR w x cs G) : cs.length = 6 := PR_len x cs G h
/-- a call gives a pattern of its own -/
def MadePt (p : P) (w : World) (e : Ending) (w' : World) : Prop := ∃ cs F, e = .returned (.agg cs.toArray) ∧ Below w.heap.size w w' ∧ PR w' p cs F ∧ Free w' F ∧ Fresh w w' F
def PatOfP (fn : FuncId) (v : V) : Prop := ∀ (w : World) (cs : List Value) (G : List Nat), VR w v cs G → Under w.heap.size G → v.size ≤ 1048576 →
  Calls Try.prog fn #[.agg cs.toArray] w (MadePt (patOf v) w)
theorem V.sizes_mem' (l : List V) (k : Nat) (h : k < l.length) : l[k].size ≤ V.sizes l := by
  have := V.size_lt l k h
  omega

set_option maxRecDepth 100000 in
set_option maxHeartbeats 1600000 in
theorem impl_patternOf_of (v : V) (ih : ∀ k ∈ v.ks, PatOfP 74 k) : PatOfP 74 v := by
  intro w cs G hv hg hz
  obtain ⟨kv, rfl, ha⟩ := (VR_iff _ _ _).1 hv
  obtain ⟨A4, cap4, rfl, hc3, hc4⟩ := ha.form
  obtain ⟨i0, hi, hz0, hz1, hz2⟩ := info_parts info_PE
  have IH := Lib.hid ih
  have HI := Lib.hid hi
  have HZ0 := Lib.hid hz0
  have HZ1 := Lib.hid hz1
  have HZ2 := Lib.hid hz2
  have HA := Lib.hid ha
  have HG := Lib.hid hg
  clear hi hz0 hz1 hz2 ha hg
  have hzk : V.sizes v.ks ≤ 1048576 := by obtain ⟨c, n, ks⟩ := v; exact hz
  have hkl : v.ks.length ≤ 1048576 := by rw [V.sizes_eq] at hzk; omega
  have HZ := Lib.hid hzk
  clear ih hv hz hzk
  by_cases hn : v.c = -1
  · have t0 : (v.c == -1) = true := by simp [hn]
    have HP := Lib.hid (patOf_num hn)
    go_enter Try.func74, Try.ntmps74
    go_wp2
    refine bodyPost_ret (results_cell_row rfl _ _ (w.heap.size + 1) 32 #[.int .i64 3, .int .i64 0, .int .i64 v.n, .int .i64 v.n, .int .i64 0, .slice none 0 0] (0, 0) _ rfl (blk_second _ _ _ _) Try.underlying32 rfl rfl) rfl ?_
    exact ⟨[.int .i64 3, .int .i64 0, .int .i64 v.n, .int .i64 v.n, .int .i64 0, .slice none 0 0], [], rfl, ((Below.refl _ _).alloc (Nat.le_refl _) _).alloc (by simp) _, by rw [HP.out]; exact (PR_iff _ _ _).2 ⟨_, rfl, Arr.nil⟩, Free.nil _, Fresh.nil _ _⟩
  · have t0 : (v.c == -1) = false := by simpa using hn
    have HP := Lib.hid (patOf_ctor hn)
    have HN := Lib.hid hn
    clear hn
    have hB0 : Below w.heap.size w (((w.alloc (.cells #[.int .i64 v.c, .int .i64 v.n, .slice A4 v.ks.length cap4] 41)).alloc (.cells #[.int .i64 0, .int .i64 0, .int .i64 0, .int .i64 0, .int .i64 0, .slice none 0 0] 32)).alloc (.cells #[.int .i64 4, .int .i64 v.c, .int .i64 0, .int .i64 0, .int .i64 0, .slice none 0 0] 32)) := (((Below.refl _ _).alloc (Nat.le_refl _) _).alloc (by simp) _).alloc (by simp; omega) _
    have K0 : Hid (Blk (((w.alloc (.cells #[.int .i64 v.c, .int .i64 v.n, .slice A4 v.ks.length cap4] 41)).alloc (.cells #[.int .i64 0, .int .i64 0, .int .i64 0, .int .i64 0, .int .i64 0, .slice none 0 0] 32)).alloc (.cells #[.int .i64 4, .int .i64 v.c, .int .i64 0, .int .i64 0, .int .i64 0, .slice none 0 0] 32)) (w.heap.size + 2) 32 #[.int .i64 4, .int .i64 v.c, .int .i64 0, .int .i64 0, .int .i64 0, .slice none 0 0]) := by
      have h := Blk.new ((w.alloc (.cells #[.int .i64 v.c, .int .i64 v.n, .slice A4 v.ks.length cap4] 41)).alloc (.cells #[.int .i64 0, .int .i64 0, .int .i64 0, .int .i64 0, .int .i64 0, .slice none 0 0] 32)) 32 #[.int .i64 4, .int .i64 v.c, .int .i64 0, .int .i64 0, .int .i64 0, .slice none 0 0]
      rw [show ((w.alloc (.cells #[.int .i64 v.c, .int .i64 v.n, .slice A4 v.ks.length cap4] 41)).alloc (.cells #[.int .i64 0, .int .i64 0, .int .i64 0, .int .i64 0, .int .i64 0, .slice none 0 0] 32)).heap.size = w.heap.size + 2 from by simp] at h
      exact h
    have R0 : Hid (Blk (((w.alloc (.cells #[.int .i64 v.c, .int .i64 v.n, .slice A4 v.ks.length cap4] 41)).alloc (.cells #[.int .i64 0, .int .i64 0, .int .i64 0, .int .i64 0, .int .i64 0, .slice none 0 0] 32)).alloc (.cells #[.int .i64 4, .int .i64 v.c, .int .i64 0, .int .i64 0, .int .i64 0, .slice none 0 0] 32)) (w.heap.size + 1) 32 #[.int .i64 0, .int .i64 0, .int .i64 0, .int .i64 0, .int .i64 0, .slice none 0 0]) := by
      have h := Blk.new (w.alloc (.cells #[.int .i64 v.c, .int .i64 v.n, .slice A4 v.ks.length cap4] 41)) 32 #[.int .i64 0, .int .i64 0, .int .i64 0, .int .i64 0, .int .i64 0, .slice none 0 0]
      rw [World.size_alloc] at h
      exact h.same (Below.heap_alloc _ _ _ (by simp))
    have V0 : Hid (Blk (((w.alloc (.cells #[.int .i64 v.c, .int .i64 v.n, .slice A4 v.ks.length cap4] 41)).alloc (.cells #[.int .i64 0, .int .i64 0, .int .i64 0, .int .i64 0, .int .i64 0, .slice none 0 0] 32)).alloc (.cells #[.int .i64 4, .int .i64 v.c, .int .i64 0, .int .i64 0, .int .i64 0, .slice none 0 0] 32)) w.heap.size 41 #[.int .i64 v.c, .int .i64 v.n, .slice A4 v.ks.length cap4]) := ((Blk.new w _ _).same (Below.heap_alloc _ _ _ (by simp))).same (Below.heap_alloc _ _ _ (by simp; omega))
    have hs0 : (((w.alloc (.cells #[.int .i64 v.c, .int .i64 v.n, .slice A4 v.ks.length cap4] 41)).alloc (.cells #[.int .i64 0, .int .i64 0, .int .i64 0, .int .i64 0, .int .i64 0, .slice none 0 0] 32)).alloc (.cells #[.int .i64 4, .int .i64 v.c, .int .i64 0, .int .i64 0, .int .i64 0, .slice none 0 0] 32)).heap.size = w.heap.size + 2 + 1 := by simp
    go_enter Try.func74, Try.ntmps74
    go_wp2
    obtain ⟨w9, hw9⟩ : ∃ w9, w9 = (((w.alloc (.cells #[.int .i64 v.c, .int .i64 v.n, .slice A4 v.ks.length cap4] 41)).alloc (.cells #[.int .i64 0, .int .i64 0, .int .i64 0, .int .i64 0, .int .i64 0, .slice none 0 0] 32)).alloc (.cells #[.int .i64 4, .int .i64 v.c, .int .i64 0, .int .i64 0, .int .i64 0, .slice none 0 0] 32)) := ⟨_, rfl⟩
    rw [← hw9] at hB0 K0 V0 R0 hs0 ⊢
    clear hw9
    go_loopw [20] (fun iv wr => ∃ i : Nat, ∃ kv : Value, ∃ Fk : List Nat, i ≤ v.ks.length ∧ iv = .int .i64 i ∧ Hid (Blk wr (w.heap.size + 2) 32 #[.int .i64 4, .int .i64 v.c, .int .i64 0, .int .i64 0, .int .i64 0, kv]) ∧ Hid (Own wr (w.heap.size + 2 + 1) 32 6 PR (patTo v.ks i) kv Fk) ∧ Hid (Free wr Fk) ∧ Hid (∀ b ∈ Fk, w.heap.size + 2 + 1 ≤ b) ∧ Hid (Chg [w.heap.size + 2] w9 wr) ∧ Below w.heap.size w wr ∧ w9.heap.size ≤ wr.heap.size) (fun iv _ => v.ks.length - (intOf iv).toNat)
    case atStart => exact ⟨0, _, [], Nat.zero_le _, rfl, K0, (show Own _ _ _ _ _ (patTo v.ks 0) _ _ from Own.nil _ _ _ _ _), Free.nil _, (fun b hb => by cases hb), Chg.refl _ _, hB0, Nat.le_refl _⟩
    case round =>
      clear hB0 K0
      obtain ⟨i, kv, Fk, hi, rfl, KD, HO, HFk, HFh, HC, hB, hws⟩ := hrel
      obtain ⟨kA, kcap, hkv, hkc1, hkc2⟩ := HO.out.form
      subst hkv
      have klt := KD.out.lt
      by_cases hil : i < v.ks.length
      · obtain ⟨b4, off4, rfl⟩ := HA.out.ptr (by omega)
        have hb4w : b4 < w.heap.size := by obtain ⟨_, _, _, _, e, hb, -⟩ := HA.out.get VR_len hil; cases e; exact HG.out _ hb
        obtain ⟨A7, cap7, G7, hb7, k0, k1, k2, HV7, HG7, -, -, -⟩ := ArrV.at HA.out HG.out hB i hil
        have g1 : (0 : Int) ≤ (i : Int) := by omega
        have g2 : (i : Int) < (v.ks.length : Int) := by omega
        have hkk := patTo_len v.ks i
        have HKS : Hid (v.ks[i].size ≤ 1048576) := by have h1 := V.sizes_mem' v.ks i hil; have h2 := HZ.out; unfold Hid; omega
        have hmx : (patTo v.ks i).length + 1 ≤ maxLen := by unfold maxLen; omega
        have hby : ((patTo v.ks i).length + 1) * 64 ≤ 140737488355328 := by omega
        go_wp2_with fail
        obtain ⟨wk, hwk⟩ : ∃ wk, wk = wr.alloc (.cells #[.int .i64 v.ks[i].c, .int .i64 v.ks[i].n, .slice A7 v.ks[i].ks.length cap7] 41) := ⟨_, rfl⟩
        have hBk : Below wr.heap.size wr wk := by rw [hwk]; exact (Below.refl _ _).alloc (Nat.le_refl _) _
        have KK : Blk wk wr.heap.size 41 #[.int .i64 v.ks[i].c, .int .i64 v.ks[i].n, .slice A7 v.ks[i].ks.length cap7] := by rw [hwk]; exact Blk.new _ _ _
        have hwks : wk.heap.size = wr.heap.size + 1 := by rw [hwk]; simp
        rw [← hwk]
        clear hwk
        have z0 : wk.cell? ⟨wr.heap.size, 0, none⟩ = some (.int .i64 v.ks[i].c) := (KK.cell 0).trans (by simp)
        have z1 : wk.cell? ⟨wr.heap.size, 1, none⟩ = some (.int .i64 v.ks[i].n) := (KK.cell 1).trans (by simp)
        have z2 : wk.cell? ⟨wr.heap.size, 2, none⟩ = some (.slice A7 v.ks[i].ks.length cap7) := (KK.cell 2).trans (by simp)
        have KDk := KD.out.same (hBk.block _ KD.out.lt)
        have zT : wk.drew.cell? ⟨w.heap.size + 2, 5, none⟩ = some (.slice kA (patTo v.ks i).length kcap) := (KDk.cell 5).trans (by simp)
        have zfT : wk.drew.frozen? ⟨w.heap.size + 2, 5, none⟩ = false := KDk.frozen 5
        have kklt : wr.heap.size < wk.drew.heap.size := KK.lt
        have hkT : w.heap.size + 2 < wk.drew.heap.size := KDk.lt
        clear KK KDk k0 k1 k2
        have HBk := Lib.hid hBk.drew
        clear hBk
        have HCALL := Lib.hid (IH.out v.ks[i] (List.getElem_mem hil) wk.drew _ G7 ((HV7.out.below hB HG7.out).below HBk.out (HG7.out.mono hB.size)) (HG7.out.mono (Nat.le_trans hB.size HBk.out.size)) HKS.out)
        refine wp_region_B (S := fun w' => w'.cell? ⟨wr.heap.size, 0, none⟩ = some (.int .i64 v.ks[i].c) ∧ w'.cell? ⟨wr.heap.size, 1, none⟩ = some (.int .i64 v.ks[i].n) ∧ w'.cell? ⟨wr.heap.size, 2, none⟩ = some (.slice A7 v.ks[i].ks.length cap7)) (T := fun w' => w'.cell? ⟨w.heap.size + 2, 5, none⟩ = some (.slice kA (patTo v.ks i).length kcap)) (d := 5) (by kernel_rfl) ?_
        have hS1 : wk.drew.cell? ⟨wr.heap.size, 0, none⟩ = some (.int .i64 v.ks[i].c) ∧ wk.drew.cell? ⟨wr.heap.size, 1, none⟩ = some (.int .i64 v.ks[i].n) ∧ wk.drew.cell? ⟨wr.heap.size, 2, none⟩ = some (.slice A7 v.ks[i].ks.length cap7) := ⟨z0, z1, z2⟩
        have hT1 : wk.drew.cell? ⟨w.heap.size + 2, 5, none⟩ = some (.slice kA (patTo v.ks i).length kcap) := zT
        refine wpAnyB_take (i := 0) (v := ?_) rfl (by decide) (by kernel_rfl) (by kernel_rfl) (by kernel_rfl) (fun _ _ _ h => h) (Or.inl ⟨by rfl, ?hy0⟩) hS1 (fun _ => hT1) ?_
        case hy0 => (intro W hSw; (try dsimp only at hSw); (obtain ⟨s0, s1, s2⟩ := hSw); go_simp; try with_reducible rfl)
        (try simp only [Act.put, List.setIfInBounds_toArray, List.set_cons_zero, List.set_cons_succ])
        refine wpAnyB_takeB (i := 1) (v := ?_) rfl (by decide) rfl (by kernel_rfl) (by kernel_rfl) (by kernel_rfl) (by kernel_rfl) (fun _ _ _ h => h) (Or.inl ⟨by rfl, ?hy1⟩) (by rfl) hS1 hT1 ?_
        case hy1 => (intro W hSw; (try dsimp only at hSw); (obtain ⟨⟨s0, s1, s2⟩, tT⟩ := hSw); go_simp; try with_reducible rfl)
        (try simp only [Act.put, List.setIfInBounds_toArray, List.set_cons_zero, List.set_cons_succ])
        refine wpAnyB_take (i := 2) (v := ?_) rfl (by decide) (by kernel_rfl) (by kernel_rfl) (by kernel_rfl) (fun _ _ _ h => h) (Or.inl ⟨by rfl, ?hy2⟩) hS1 (fun _ => hT1) ?_
        case hy2 => (intro W hSw; (try dsimp only at hSw); (obtain ⟨s0, s1, s2⟩ := hSw); go_simp; try with_reducible rfl)
        (try simp only [Act.put, List.setIfInBounds_toArray, List.set_cons_zero, List.set_cons_succ])
        refine wpAnyB_ready (rs := [3]) (by kernel_rfl) (by simp) ?_
        refine AllReadyB.cons rfl (fun K hK => ?_) AllReadyB.nil
        go_simp
        go_at_call 74
        with_reducible refine HCALL.out.mono ?_
        rintro e wA ⟨csA, FA, rfl, hbA, hpA, hfrA, hfsA⟩
        obtain ⟨kvA, rfl, haA⟩ := (PR_iff _ _ _).1 hpA
        obtain ⟨A8, cap8, rfl, -, -⟩ := haA.form
        clear haA
        have HBu := Lib.hid (HBk.out.trans (hbA.mono HBk.out.size))
        have HPA := Lib.hid hpA
        have HFrA := Lib.hid hfrA
        have HFsA : Hid (∀ b ∈ FA, wr.heap.size ≤ b ∧ b < wA.heap.size) := fun b hb => ⟨Nat.le_trans HBk.out.size (hfsA b hb).1, (hfsA b hb).2⟩
        have HOA : Hid (Own wA (w.heap.size + 2 + 1) 32 6 PR (patTo v.ks i) (.slice kA (patTo v.ks i).length kcap) Fk) := HO.out.below (fun x cs G hk h => PR_mono' _ _ x cs G hk h) HBu.out
        have hbs : w.heap.size + 2 + 1 ≤ wA.heap.size := by have := HBu.out.size; omega
        have hSA : wA.cell? ⟨wr.heap.size, 0, none⟩ = some (.int .i64 v.ks[i].c) ∧ wA.cell? ⟨wr.heap.size, 1, none⟩ = some (.int .i64 v.ks[i].n) ∧ wA.cell? ⟨wr.heap.size, 2, none⟩ = some (.slice A7 v.ks[i].ks.length cap7) := ⟨(hbA.cell (p := ⟨wr.heap.size, 0, none⟩) kklt).trans z0, (hbA.cell (p := ⟨wr.heap.size, 1, none⟩) kklt).trans z1, (hbA.cell (p := ⟨wr.heap.size, 2, none⟩) kklt).trans z2⟩
        have zA : wA.cell? ⟨w.heap.size + 2, 5, none⟩ = some (.slice kA (patTo v.ks i).length kcap) := (hbA.cell (p := ⟨w.heap.size + 2, 5, none⟩) hkT).trans zT
        have zfA : wA.frozen? ⟨w.heap.size + 2, 5, none⟩ = false := (hbA.frozen hkT).trans zfT
        have hkA : w.heap.size + 2 < wA.heap.size := Nat.lt_of_lt_of_le hkT hbA.size
        have kl0 : wr.heap.size < wA.heap.size := Nat.lt_of_lt_of_le kklt hbA.size
        have kl1 : wr.heap.size < wA.heap.size := Nat.lt_of_lt_of_le kklt hbA.size
        have kl2 : wr.heap.size < wA.heap.size := Nat.lt_of_lt_of_le kklt hbA.size
        have hSB : (wA.alloc (.cells [.int .i64 (patOf v.ks[i]).op, .int .i64 (patOf v.ks[i]).ct, .int .i64 (patOf v.ks[i]).n, .int .i64 (patOf v.ks[i]).m, .int .i64 (patOf v.ks[i]).va, .slice A8 (patOf v.ks[i]).ks.length cap8].toArray 32)).cell? ⟨wr.heap.size, 0, none⟩ = some (.int .i64 v.ks[i].c) ∧ (wA.alloc (.cells [.int .i64 (patOf v.ks[i]).op, .int .i64 (patOf v.ks[i]).ct, .int .i64 (patOf v.ks[i]).n, .int .i64 (patOf v.ks[i]).m, .int .i64 (patOf v.ks[i]).va, .slice A8 (patOf v.ks[i]).ks.length cap8].toArray 32)).cell? ⟨wr.heap.size, 1, none⟩ = some (.int .i64 v.ks[i].n) ∧ (wA.alloc (.cells [.int .i64 (patOf v.ks[i]).op, .int .i64 (patOf v.ks[i]).ct, .int .i64 (patOf v.ks[i]).n, .int .i64 (patOf v.ks[i]).m, .int .i64 (patOf v.ks[i]).va, .slice A8 (patOf v.ks[i]).ks.length cap8].toArray 32)).cell? ⟨wr.heap.size, 2, none⟩ = some (.slice A7 v.ks[i].ks.length cap7) := ⟨(World.cell?_alloc_lt _ _ _ kl0).trans hSA.1, (World.cell?_alloc_lt _ _ _ kl1).trans hSA.2.1, (World.cell?_alloc_lt _ _ _ kl2).trans hSA.2.2⟩
        dsimp only
        refine hK.out _ _ hSA (fun _ => zA) ?_
        clear hK K
        (try simp only [Act.put, List.setIfInBounds_toArray, List.set_cons_zero, List.set_cons_succ])
        refine wpAnyB_ready (rs := [4]) (by kernel_rfl) (by simp) ?_
        refine AllReadyB.cons rfl (fun K hK => ?_) AllReadyB.nil
        go_simp
        refine hK.out _ _ hSB (fun _ => (World.cell?_alloc_lt _ _ _ hkA).trans zA) ?_
        clear hK K
        (try simp only [Act.put, List.setIfInBounds_toArray, List.set_cons_zero, List.set_cons_succ])
        refine wpAnyB_ready (rs := [5]) (by kernel_rfl) (by simp) ?_
        refine AllReadyB.cons rfl (fun K hK => ?_) AllReadyB.nil
        refine step_push1 (P := Try.prog) rfl _ _ 30 rfl i0 _ 64 Try.underlying30 HI.out HZ0.out HZ1.out HZ2.out rfl (by decide) PR_len' PR_mono' (by rfl) HOA.out (patOf v.ks[i]) 32 [.int .i64 (patOf v.ks[i]).op, .int .i64 (patOf v.ks[i]).ct, .int .i64 (patOf v.ks[i]).n, .int .i64 (patOf v.ks[i]).m, .int .i64 (patOf v.ks[i]).va, .slice A8 (patOf v.ks[i]).ks.length cap8] FA wA.heap.size (by rfl) rfl (by simp [Value.oneCell']) HPA.out (fun b hb => (HFsA.out b hb).2) (fun g hg hG => Nat.lt_irrefl _ (Nat.lt_of_lt_of_le (HO.out.row g hg).2 (HFsA.out g hG).1)) hmx hby hbs ?_
        intro g cp w7 hown7 hgr7 hat7
        have hrow7 := HOA.out.row
        have n7 : ∀ x, (x < w.heap.size + 2 + 1 ∨ wr.heap.size ≤ x) → some x ≠ (Value.ownBlock (.slice kA (patTo v.ks i).length kcap)) := fun x hx e => by
          have h1 := (hrow7 x (mem_rowOf.2 e.symm)).1
          have h2 := (HO.out.row x (mem_rowOf.2 e.symm)).2
          omega
        have l7 : wA.heap.size ≤ (wA.alloc (.cells [.int .i64 (patOf v.ks[i]).op, .int .i64 (patOf v.ks[i]).ct, .int .i64 (patOf v.ks[i]).n, .int .i64 (patOf v.ks[i]).m, .int .i64 (patOf v.ks[i]).va, .slice A8 (patOf v.ks[i]).ks.length cap8].toArray 32)).heap.size := by rw [World.size_alloc]; exact Nat.le_succ _
        have s7 : w7.cell? ⟨wr.heap.size, 0, none⟩ = some (.int .i64 v.ks[i].c) ∧ w7.cell? ⟨wr.heap.size, 1, none⟩ = some (.int .i64 v.ks[i].n) ∧ w7.cell? ⟨wr.heap.size, 2, none⟩ = some (.slice A7 v.ks[i].ks.length cap7) := ⟨(World.grownBy.cell_far hgr7 ⟨wr.heap.size, 0, none⟩ (Nat.lt_of_lt_of_le kl0 l7) (n7 (wr.heap.size) (by omega))).trans hSB.1, (World.grownBy.cell_far hgr7 ⟨wr.heap.size, 1, none⟩ (Nat.lt_of_lt_of_le kl1 l7) (n7 (wr.heap.size) (by omega))).trans hSB.2.1, (World.grownBy.cell_far hgr7 ⟨wr.heap.size, 2, none⟩ (Nat.lt_of_lt_of_le kl2 l7) (n7 (wr.heap.size) (by omega))).trans hSB.2.2⟩
        have z71 : w7.cell? ⟨w.heap.size + 2, 5, none⟩ = some (.slice kA (patTo v.ks i).length kcap) := (World.grownBy.cell_far hgr7 ⟨w.heap.size + 2, 5, none⟩ (Nat.lt_of_lt_of_le hkA l7) (n7 (w.heap.size + 2) (by omega))).trans ((World.cell?_alloc_lt _ _ _ hkA).trans zA)
        have zf71 : w7.frozen? ⟨w.heap.size + 2, 5, none⟩ = false := (World.grownBy.frozen_far hgr7 ⟨w.heap.size + 2, 5, none⟩ (Nat.lt_of_lt_of_le hkA l7) (n7 (w.heap.size + 2) (by omega))).trans (Eq.trans (World.frozen?_of_block (Below.heap_alloc _ _ _ hkA)) zfA)
        refine hK.out _ _ s7 (fun h => by cases h) ?_
        clear hK K
        (try simp only [Act.put, List.setIfInBounds_toArray, List.set_cons_zero, List.set_cons_succ])
        refine wpAnyB_take (i := 6) (v := ?_) rfl (by decide) (by kernel_rfl) (by kernel_rfl) (by kernel_rfl) (fun _ _ _ h => h) (Or.inl ⟨by rfl, ?hy6⟩) s7 (fun h => by cases h) ?_
        case hy6 => (intro W hSw; (try dsimp only at hSw); (obtain ⟨s0, s1, s2⟩ := hSw); go_simp; try with_reducible rfl)
        (try simp only [Act.put, List.setIfInBounds_toArray, List.set_cons_zero, List.set_cons_succ])
        refine wpAnyB_ready (rs := [7]) (by kernel_rfl) (by simp) ?_
        refine AllReadyB.cons rfl (fun K hK => ?_) AllReadyB.nil
        go_simp
        refine hK.out _ _ ⟨(World.cell?_setCell_far _ _ _ _ (by show w.heap.size + 2 ≠ wr.heap.size; omega)).trans s7.1, (World.cell?_setCell_far _ _ _ _ (by show w.heap.size + 2 ≠ wr.heap.size; omega)).trans s7.2.1, (World.cell?_setCell_far _ _ _ _ (by show w.heap.size + 2 ≠ wr.heap.size; omega)).trans s7.2.2⟩ (fun h => by cases h) ?_
        clear hK K
        (try simp only [Act.put, List.setIfInBounds_toArray, List.set_cons_zero, List.set_cons_succ])
        refine wpAnyB_end (by kernel_rfl) ?_
        have HF2 := Lib.hid (patTo_succ v.ks i hil)
        obtain ⟨r1, r2, r3, r4, r5, r6, r7⟩ := kid_round 5 PR_mono' hs0 KD.out HO.out HFk.out HFh.out HC.out hB (by omega) (Nat.le_refl _) HBu.out HFrA.out HFsA.out hown7 hgr7
        have R1 := Lib.hid r1
        have R2 := Lib.hid r2
        have R3 := Lib.hid r3
        have R4 := Lib.hid r4
        have R5 := Lib.hid r5
        have R6 := Lib.hid r6
        clear r1 r2 r3 r4 r5 r6 hown7 hgr7 hat7 hrow7 n7 l7 s7 z71 zf71 hSA zA zfA hkA hSB hS1 hT1 zT zfT hkT HCALL
        go_wp2
        go_roundw
        case rel => exact ⟨i + 1, _, _, hil, by go_num, R1, by rw [HF2.out]; exact R2.out, R3, R4, R5, R6.out, r7⟩
        case measure => (simp [intOf] <;> omega)
      · have HO2 := HO.out
        rw [patTo_all v.ks (by omega)] at HO2
        have hln := congrArg List.length (patTo_all v.ks (i := i) (by omega))
        obtain ⟨FF, hf1, hf2, hf3⟩ := kid_done (H := w.heap.size + 2 + 1) HO2 HFk.out HFh.out (Nat.le_refl _)
        have HF1 := Lib.hid hf1
        have HF2 := Lib.hid hf2
        have HF3 := Lib.hid hf3
        have e0 := (KD.out.cell 0).trans (show _ = some (.int .i64 4) from by simp)
        have e1 := (KD.out.cell 1).trans (show _ = some (.int .i64 v.c) from by simp)
        have e2 := (KD.out.cell 2).trans (show _ = some (.int .i64 0) from by simp)
        have e3 := (KD.out.cell 3).trans (show _ = some (.int .i64 0) from by simp)
        have e4 := (KD.out.cell 4).trans (show _ = some (.int .i64 0) from by simp)
        have e5 := (KD.out.cell 5).trans (show _ = some (.slice kA (patTo v.ks i).length kcap) from by simp)
        have HLN := Lib.hid hln
        have RR := Lib.hid (R0.out.same (HC.out.block _ R0.out.lt (by simp)))
        have rlt := RR.out.lt
        have rc0 := (RR.out.cell 0).trans (show _ = some (.int .i64 0) from by simp)
        have rf0 := RR.out.frozen 0
        have rc1 := (RR.out.cell 1).trans (show _ = some (.int .i64 0) from by simp)
        have rf1 := RR.out.frozen 1
        have rc2 := (RR.out.cell 2).trans (show _ = some (.int .i64 0) from by simp)
        have rf2 := RR.out.frozen 2
        have rc3 := (RR.out.cell 3).trans (show _ = some (.int .i64 0) from by simp)
        have rf3 := RR.out.frozen 3
        have rc4 := (RR.out.cell 4).trans (show _ = some (.int .i64 0) from by simp)
        have rf4 := RR.out.frozen 4
        have rc5 := (RR.out.cell 5).trans (show _ = some (.slice none 0 0) from by simp)
        have rf5 := RR.out.frozen 5
        clear hf1 hf2 hf3 HO2 hln
        go_wp2
        clear e0 e1 e2 e3 e4 e5 rc0 rf0 rc1 rf1 rc2 rf2 rc3 rf3 rc4 rf4 rc5 rf5
        refine bodyPost_ret (results_cell_row rfl _ _ (w.heap.size + 1) 32 #[.int .i64 4, .int .i64 v.c, .int .i64 0, .int .i64 0, .int .i64 0, .slice kA (patTo v.ks i).length kcap] (0, 0) _ rfl (RR.out.six _ _ _ _ _ _) Try.underlying32 rfl rfl) rfl ?_
        have hkp : Kept FF wr _ := kept_six (w := wr) (H := w.heap.size + 1) (fun b hb => by have := (HF3.out b hb).1; omega) (.int .i64 4) (.int .i64 v.c) (.int .i64 0) (.int .i64 0) (.int .i64 0) (.slice kA (patTo v.ks i).length kcap)
        refine ⟨[.int .i64 4, .int .i64 v.c, .int .i64 0, .int .i64 0, .int .i64 0, .slice kA (patTo v.ks i).length kcap], FF, rfl, below_six hB (by omega) _ _ _ _ _ _, ?_, HF2.out.kept hkp, fun b hb => ⟨by have := (HF3.out b hb).1; omega, ?_⟩⟩
        · rw [HP.out]
          exact (PR_iff _ _ _).2 ⟨_, rfl, ArrP.mono (by rw [HLN.out]; exact HF1.out) hkp⟩
        · rw [size_six]; exact (HF3.out b hb).2
theorem impl_patternOf : ∀ v, PatOfP 74 v := V.indv impl_patternOf_of

set_option maxRecDepth 100000 in
set_option maxHeartbeats 1600000 in
theorem spec_l3Of_of (v : V) (ih : ∀ k ∈ v.ks, PatOfP 71 k) : PatOfP 71 v := by
  intro w cs G hv hg hz
  obtain ⟨kv, rfl, ha⟩ := (VR_iff _ _ _).1 hv
  obtain ⟨A4, cap4, rfl, hc3, hc4⟩ := ha.form
  obtain ⟨i0, hi, hz0, hz1, hz2⟩ := info_parts info_PE
  have IH := Lib.hid ih
  have HI := Lib.hid hi
  have HZ0 := Lib.hid hz0
  have HZ1 := Lib.hid hz1
  have HZ2 := Lib.hid hz2
  have HA := Lib.hid ha
  have HG := Lib.hid hg
  clear hi hz0 hz1 hz2 ha hg
  have hzk : V.sizes v.ks ≤ 1048576 := by obtain ⟨c, n, ks⟩ := v; exact hz
  have hkl : v.ks.length ≤ 1048576 := by rw [V.sizes_eq] at hzk; omega
  have HZ := Lib.hid hzk
  clear ih hv hz hzk
  by_cases hn : v.c = -1
  · have t0 : (v.c == -1) = true := by simp [hn]
    have HP := Lib.hid (patOf_num hn)
    go_enter Try.func71, Try.ntmps71
    go_wp2
    refine bodyPost_ret (results_cell_row rfl _ _ (w.heap.size + 1) 32 #[.int .i64 3, .int .i64 0, .int .i64 v.n, .int .i64 v.n, .int .i64 0, .slice none 0 0] (0, 0) _ rfl (blk_second _ _ _ _) Try.underlying32 rfl rfl) rfl ?_
    exact ⟨[.int .i64 3, .int .i64 0, .int .i64 v.n, .int .i64 v.n, .int .i64 0, .slice none 0 0], [], rfl, ((Below.refl _ _).alloc (Nat.le_refl _) _).alloc (by simp) _, by rw [HP.out]; exact (PR_iff _ _ _).2 ⟨_, rfl, Arr.nil⟩, Free.nil _, Fresh.nil _ _⟩
  · have t0 : (v.c == -1) = false := by simpa using hn
    have HP := Lib.hid (patOf_ctor hn)
    have HN := Lib.hid hn
    clear hn
    have hB0 : Below w.heap.size w (((w.alloc (.cells #[.int .i64 v.c, .int .i64 v.n, .slice A4 v.ks.length cap4] 41)).alloc (.cells #[.int .i64 0, .int .i64 0, .int .i64 0, .int .i64 0, .int .i64 0, .slice none 0 0] 32)).alloc (.cells #[.int .i64 4, .int .i64 v.c, .int .i64 0, .int .i64 0, .int .i64 0, .slice none 0 0] 32)) := (((Below.refl _ _).alloc (Nat.le_refl _) _).alloc (by simp) _).alloc (by simp; omega) _
    have K0 : Hid (Blk (((w.alloc (.cells #[.int .i64 v.c, .int .i64 v.n, .slice A4 v.ks.length cap4] 41)).alloc (.cells #[.int .i64 0, .int .i64 0, .int .i64 0, .int .i64 0, .int .i64 0, .slice none 0 0] 32)).alloc (.cells #[.int .i64 4, .int .i64 v.c, .int .i64 0, .int .i64 0, .int .i64 0, .slice none 0 0] 32)) (w.heap.size + 2) 32 #[.int .i64 4, .int .i64 v.c, .int .i64 0, .int .i64 0, .int .i64 0, .slice none 0 0]) := by
      have h := Blk.new ((w.alloc (.cells #[.int .i64 v.c, .int .i64 v.n, .slice A4 v.ks.length cap4] 41)).alloc (.cells #[.int .i64 0, .int .i64 0, .int .i64 0, .int .i64 0, .int .i64 0, .slice none 0 0] 32)) 32 #[.int .i64 4, .int .i64 v.c, .int .i64 0, .int .i64 0, .int .i64 0, .slice none 0 0]
      rw [show ((w.alloc (.cells #[.int .i64 v.c, .int .i64 v.n, .slice A4 v.ks.length cap4] 41)).alloc (.cells #[.int .i64 0, .int .i64 0, .int .i64 0, .int .i64 0, .int .i64 0, .slice none 0 0] 32)).heap.size = w.heap.size + 2 from by simp] at h
      exact h
    have R0 : Hid (Blk (((w.alloc (.cells #[.int .i64 v.c, .int .i64 v.n, .slice A4 v.ks.length cap4] 41)).alloc (.cells #[.int .i64 0, .int .i64 0, .int .i64 0, .int .i64 0, .int .i64 0, .slice none 0 0] 32)).alloc (.cells #[.int .i64 4, .int .i64 v.c, .int .i64 0, .int .i64 0, .int .i64 0, .slice none 0 0] 32)) (w.heap.size + 1) 32 #[.int .i64 0, .int .i64 0, .int .i64 0, .int .i64 0, .int .i64 0, .slice none 0 0]) := by
      have h := Blk.new (w.alloc (.cells #[.int .i64 v.c, .int .i64 v.n, .slice A4 v.ks.length cap4] 41)) 32 #[.int .i64 0, .int .i64 0, .int .i64 0, .int .i64 0, .int .i64 0, .slice none 0 0]
      rw [World.size_alloc] at h
      exact h.same (Below.heap_alloc _ _ _ (by simp))
    have V0 : Hid (Blk (((w.alloc (.cells #[.int .i64 v.c, .int .i64 v.n, .slice A4 v.ks.length cap4] 41)).alloc (.cells #[.int .i64 0, .int .i64 0, .int .i64 0, .int .i64 0, .int .i64 0, .slice none 0 0] 32)).alloc (.cells #[.int .i64 4, .int .i64 v.c, .int .i64 0, .int .i64 0, .int .i64 0, .slice none 0 0] 32)) w.heap.size 41 #[.int .i64 v.c, .int .i64 v.n, .slice A4 v.ks.length cap4]) := ((Blk.new w _ _).same (Below.heap_alloc _ _ _ (by simp))).same (Below.heap_alloc _ _ _ (by simp; omega))
    have hs0 : (((w.alloc (.cells #[.int .i64 v.c, .int .i64 v.n, .slice A4 v.ks.length cap4] 41)).alloc (.cells #[.int .i64 0, .int .i64 0, .int .i64 0, .int .i64 0, .int .i64 0, .slice none 0 0] 32)).alloc (.cells #[.int .i64 4, .int .i64 v.c, .int .i64 0, .int .i64 0, .int .i64 0, .slice none 0 0] 32)).heap.size = w.heap.size + 2 + 1 := by simp
    go_enter Try.func71, Try.ntmps71
    go_wp2
    obtain ⟨w9, hw9⟩ : ∃ w9, w9 = (((w.alloc (.cells #[.int .i64 v.c, .int .i64 v.n, .slice A4 v.ks.length cap4] 41)).alloc (.cells #[.int .i64 0, .int .i64 0, .int .i64 0, .int .i64 0, .int .i64 0, .slice none 0 0] 32)).alloc (.cells #[.int .i64 4, .int .i64 v.c, .int .i64 0, .int .i64 0, .int .i64 0, .slice none 0 0] 32)) := ⟨_, rfl⟩
    rw [← hw9] at hB0 K0 V0 R0 hs0 ⊢
    clear hw9
    go_loopw [4] (fun iv wr => ∃ i : Nat, ∃ kv : Value, ∃ Fk : List Nat, i ≤ v.ks.length ∧ iv = .int .i64 i ∧ Hid (Blk wr (w.heap.size + 2) 32 #[.int .i64 4, .int .i64 v.c, .int .i64 0, .int .i64 0, .int .i64 0, kv]) ∧ Hid (Own wr (w.heap.size + 2 + 1) 32 6 PR (patTo v.ks i) kv Fk) ∧ Hid (Free wr Fk) ∧ Hid (∀ b ∈ Fk, w.heap.size + 2 + 1 ≤ b) ∧ Hid (Chg [w.heap.size + 2] w9 wr) ∧ Below w.heap.size w wr ∧ w9.heap.size ≤ wr.heap.size) (fun iv _ => v.ks.length - (intOf iv).toNat)
    case atStart => exact ⟨0, _, [], Nat.zero_le _, rfl, K0, (show Own _ _ _ _ _ (patTo v.ks 0) _ _ from Own.nil _ _ _ _ _), Free.nil _, (fun b hb => by cases hb), Chg.refl _ _, hB0, Nat.le_refl _⟩
    case round =>
      clear hB0 K0
      obtain ⟨i, kv, Fk, hi, rfl, KD, HO, HFk, HFh, HC, hB, hws⟩ := hrel
      obtain ⟨kA, kcap, hkv, hkc1, hkc2⟩ := HO.out.form
      subst hkv
      have klt := KD.out.lt
      have V9 := Lib.hid (V0.out.same (HC.out.block _ V0.out.lt (by simp)))
      have y2 : wr.cell? ⟨w.heap.size, 2, none⟩ = some (.slice A4 v.ks.length cap4) := (V9.out.cell 2).trans (by simp)
      have vlt : w.heap.size < wr.drew.heap.size := V9.out.lt
      by_cases hil : i < v.ks.length
      · obtain ⟨b4, off4, rfl⟩ := HA.out.ptr (by omega)
        have hb4w : b4 < w.heap.size := by obtain ⟨_, _, _, _, e, hb, -⟩ := HA.out.get VR_len hil; cases e; exact HG.out _ hb
        obtain ⟨A7, cap7, G7, hb7, k0, k1, k2, HV7, HG7, -, -, -⟩ := ArrV.at HA.out HG.out hB i hil
        have g1 : (0 : Int) ≤ (i : Int) := by omega
        have g2 : (i : Int) < (v.ks.length : Int) := by omega
        have hkk := patTo_len v.ks i
        have HKS : Hid (v.ks[i].size ≤ 1048576) := by have h1 := V.sizes_mem' v.ks i hil; have h2 := HZ.out; unfold Hid; omega
        have hmx : (patTo v.ks i).length + 1 ≤ maxLen := by unfold maxLen; omega
        have hby : ((patTo v.ks i).length + 1) * 64 ≤ 140737488355328 := by omega
        have zT : wr.drew.cell? ⟨w.heap.size + 2, 5, none⟩ = some (.slice kA (patTo v.ks i).length kcap) := (KD.out.cell 5).trans (by simp)
        have zfT : wr.drew.frozen? ⟨w.heap.size + 2, 5, none⟩ = false := KD.out.frozen 5
        have hkT : w.heap.size + 2 < wr.drew.heap.size := klt
        have hb7' : b4 < wr.drew.heap.size := hb7
        have HBk : Hid (Below wr.heap.size wr wr.drew) := (Below.refl _ _).drew
        have HCALL := Lib.hid (IH.out v.ks[i] (List.getElem_mem hil) wr.drew _ G7 (HV7.out.below hB.drew HG7.out) (HG7.out.mono hB.drew.size) HKS.out)
        go_wp2_with fail
        refine wp_region_B (S := fun w' => w'.cell? ⟨w.heap.size, 2, none⟩ = some (.slice (some ⟨b4, off4, none⟩) v.ks.length cap4) ∧ w'.cell? ⟨b4, off4 + i * 3, none⟩ = some (.int .i64 v.ks[i].c) ∧ w'.cell? ⟨b4, off4 + i * 3 + 1, none⟩ = some (.int .i64 v.ks[i].n) ∧ w'.cell? ⟨b4, off4 + i * 3 + 2, none⟩ = some (.slice A7 v.ks[i].ks.length cap7)) (T := fun w' => w'.cell? ⟨w.heap.size + 2, 5, none⟩ = some (.slice kA (patTo v.ks i).length kcap)) (d := 9) (by kernel_rfl) ?_
        have hS1 : wr.drew.cell? ⟨w.heap.size, 2, none⟩ = some (.slice (some ⟨b4, off4, none⟩) v.ks.length cap4) ∧ wr.drew.cell? ⟨b4, off4 + i * 3, none⟩ = some (.int .i64 v.ks[i].c) ∧ wr.drew.cell? ⟨b4, off4 + i * 3 + 1, none⟩ = some (.int .i64 v.ks[i].n) ∧ wr.drew.cell? ⟨b4, off4 + i * 3 + 2, none⟩ = some (.slice A7 v.ks[i].ks.length cap7) := ⟨y2, k0, k1, k2⟩
        have hT1 : wr.drew.cell? ⟨w.heap.size + 2, 5, none⟩ = some (.slice kA (patTo v.ks i).length kcap) := zT
        refine wpAnyB_take (i := 0) (v := ?_) rfl (by decide) (by kernel_rfl) (by kernel_rfl) (by kernel_rfl) (fun _ _ _ h => h) (Or.inl ⟨by rfl, ?hy0⟩) hS1 (fun _ => hT1) ?_
        case hy0 => (intro W hSw; (try dsimp only at hSw); (obtain ⟨s0, s1, s2, s3⟩ := hSw); go_simp; try with_reducible rfl)
        (try simp only [Act.put, List.setIfInBounds_toArray, List.set_cons_zero, List.set_cons_succ])
        refine wpAnyB_takeB (i := 1) (v := ?_) rfl (by decide) rfl (by kernel_rfl) (by kernel_rfl) (by kernel_rfl) (by kernel_rfl) (fun _ _ _ h => h) (Or.inl ⟨by rfl, ?hy1⟩) (by rfl) hS1 hT1 ?_
        case hy1 => (intro W hSw; (try dsimp only at hSw); (obtain ⟨⟨s0, s1, s2, s3⟩, tT⟩ := hSw); go_simp; try with_reducible rfl)
        (try simp only [Act.put, List.setIfInBounds_toArray, List.set_cons_zero, List.set_cons_succ])
        refine wpAnyB_take (i := 2) (v := ?_) rfl (by decide) (by kernel_rfl) (by kernel_rfl) (by kernel_rfl) (fun _ _ _ h => h) (Or.inl ⟨by rfl, ?hy2⟩) hS1 (fun _ => hT1) ?_
        case hy2 => (intro W hSw; (try dsimp only at hSw); (obtain ⟨s0, s1, s2, s3⟩ := hSw); go_simp; try with_reducible rfl)
        (try simp only [Act.put, List.setIfInBounds_toArray, List.set_cons_zero, List.set_cons_succ])
        refine wpAnyB_take (i := 3) (v := ?_) rfl (by decide) (by kernel_rfl) (by kernel_rfl) (by kernel_rfl) (fun _ _ _ h => h) (Or.inl ⟨by rfl, ?hy3⟩) hS1 (fun _ => hT1) ?_
        case hy3 => (intro W hSw; (try dsimp only at hSw); (obtain ⟨s0, s1, s2, s3⟩ := hSw); go_simp; try with_reducible rfl)
        (try simp only [Act.put, List.setIfInBounds_toArray, List.set_cons_zero, List.set_cons_succ])
        refine wpAnyB_take (i := 4) (v := ?_) rfl (by decide) (by kernel_rfl) (by kernel_rfl) (by kernel_rfl) (fun _ _ _ h => h) (Or.inl ⟨by rfl, ?hy4⟩) hS1 (fun _ => hT1) ?_
        case hy4 => (intro W hSw; (try dsimp only at hSw); (obtain ⟨s0, s1, s2, s3⟩ := hSw); go_simp; try with_reducible rfl)
        (try simp only [Act.put, List.setIfInBounds_toArray, List.set_cons_zero, List.set_cons_succ])
        refine wpAnyB_take (i := 5) (v := ?_) rfl (by decide) (by kernel_rfl) (by kernel_rfl) (by kernel_rfl) (fun _ _ _ h => h) (Or.inl ⟨by rfl, ?hy5⟩) hS1 (fun _ => hT1) ?_
        case hy5 => (intro W hSw; (try dsimp only at hSw); (obtain ⟨s0, s1, s2, s3⟩ := hSw); go_simp; try with_reducible rfl)
        (try simp only [Act.put, List.setIfInBounds_toArray, List.set_cons_zero, List.set_cons_succ])
        refine wpAnyB_take (i := 6) (v := ?_) rfl (by decide) (by kernel_rfl) (by kernel_rfl) (by kernel_rfl) (fun _ _ _ h => h) (Or.inl ⟨by rfl, ?hy6⟩) hS1 (fun _ => hT1) ?_
        case hy6 => (intro W hSw; (try dsimp only at hSw); (obtain ⟨s0, s1, s2, s3⟩ := hSw); go_simp; try with_reducible rfl)
        (try simp only [Act.put, List.setIfInBounds_toArray, List.set_cons_zero, List.set_cons_succ])
        refine wpAnyB_ready (rs := [7]) (by kernel_rfl) (by simp) ?_
        refine AllReadyB.cons rfl (fun K hK => ?_) AllReadyB.nil
        go_simp
        go_at_call 71
        with_reducible refine HCALL.out.mono ?_
        rintro e wA ⟨csA, FA, rfl, hbA, hpA, hfrA, hfsA⟩
        obtain ⟨kvA, rfl, haA⟩ := (PR_iff _ _ _).1 hpA
        obtain ⟨A8, cap8, rfl, -, -⟩ := haA.form
        clear haA
        have HBu := Lib.hid (HBk.out.trans (hbA.mono HBk.out.size))
        have HPA := Lib.hid hpA
        have HFrA := Lib.hid hfrA
        have HFsA : Hid (∀ b ∈ FA, wr.heap.size ≤ b ∧ b < wA.heap.size) := fun b hb => ⟨Nat.le_trans HBk.out.size (hfsA b hb).1, (hfsA b hb).2⟩
        have HOA : Hid (Own wA (w.heap.size + 2 + 1) 32 6 PR (patTo v.ks i) (.slice kA (patTo v.ks i).length kcap) Fk) := HO.out.below (fun x cs G hk h => PR_mono' _ _ x cs G hk h) HBu.out
        have hbs : w.heap.size + 2 + 1 ≤ wA.heap.size := by have := HBu.out.size; omega
        have hSA : wA.cell? ⟨w.heap.size, 2, none⟩ = some (.slice (some ⟨b4, off4, none⟩) v.ks.length cap4) ∧ wA.cell? ⟨b4, off4 + i * 3, none⟩ = some (.int .i64 v.ks[i].c) ∧ wA.cell? ⟨b4, off4 + i * 3 + 1, none⟩ = some (.int .i64 v.ks[i].n) ∧ wA.cell? ⟨b4, off4 + i * 3 + 2, none⟩ = some (.slice A7 v.ks[i].ks.length cap7) := ⟨(hbA.cell (p := ⟨w.heap.size, 2, none⟩) vlt).trans y2, (hbA.cell (p := ⟨b4, off4 + i * 3, none⟩) hb7').trans k0, (hbA.cell (p := ⟨b4, off4 + i * 3 + 1, none⟩) hb7').trans k1, (hbA.cell (p := ⟨b4, off4 + i * 3 + 2, none⟩) hb7').trans k2⟩
        have zA : wA.cell? ⟨w.heap.size + 2, 5, none⟩ = some (.slice kA (patTo v.ks i).length kcap) := (hbA.cell (p := ⟨w.heap.size + 2, 5, none⟩) hkT).trans zT
        have zfA : wA.frozen? ⟨w.heap.size + 2, 5, none⟩ = false := (hbA.frozen hkT).trans zfT
        have hkA : w.heap.size + 2 < wA.heap.size := Nat.lt_of_lt_of_le hkT hbA.size
        have kl0 : w.heap.size < wA.heap.size := Nat.lt_of_lt_of_le vlt hbA.size
        have kl1 : b4 < wA.heap.size := Nat.lt_of_lt_of_le hb7' hbA.size
        have kl2 : b4 < wA.heap.size := Nat.lt_of_lt_of_le hb7' hbA.size
        have kl3 : b4 < wA.heap.size := Nat.lt_of_lt_of_le hb7' hbA.size
        have hSB : (wA.alloc (.cells [.int .i64 (patOf v.ks[i]).op, .int .i64 (patOf v.ks[i]).ct, .int .i64 (patOf v.ks[i]).n, .int .i64 (patOf v.ks[i]).m, .int .i64 (patOf v.ks[i]).va, .slice A8 (patOf v.ks[i]).ks.length cap8].toArray 32)).cell? ⟨w.heap.size, 2, none⟩ = some (.slice (some ⟨b4, off4, none⟩) v.ks.length cap4) ∧ (wA.alloc (.cells [.int .i64 (patOf v.ks[i]).op, .int .i64 (patOf v.ks[i]).ct, .int .i64 (patOf v.ks[i]).n, .int .i64 (patOf v.ks[i]).m, .int .i64 (patOf v.ks[i]).va, .slice A8 (patOf v.ks[i]).ks.length cap8].toArray 32)).cell? ⟨b4, off4 + i * 3, none⟩ = some (.int .i64 v.ks[i].c) ∧ (wA.alloc (.cells [.int .i64 (patOf v.ks[i]).op, .int .i64 (patOf v.ks[i]).ct, .int .i64 (patOf v.ks[i]).n, .int .i64 (patOf v.ks[i]).m, .int .i64 (patOf v.ks[i]).va, .slice A8 (patOf v.ks[i]).ks.length cap8].toArray 32)).cell? ⟨b4, off4 + i * 3 + 1, none⟩ = some (.int .i64 v.ks[i].n) ∧ (wA.alloc (.cells [.int .i64 (patOf v.ks[i]).op, .int .i64 (patOf v.ks[i]).ct, .int .i64 (patOf v.ks[i]).n, .int .i64 (patOf v.ks[i]).m, .int .i64 (patOf v.ks[i]).va, .slice A8 (patOf v.ks[i]).ks.length cap8].toArray 32)).cell? ⟨b4, off4 + i * 3 + 2, none⟩ = some (.slice A7 v.ks[i].ks.length cap7) := ⟨(World.cell?_alloc_lt _ _ _ kl0).trans hSA.1, (World.cell?_alloc_lt _ _ _ kl1).trans hSA.2.1, (World.cell?_alloc_lt _ _ _ kl2).trans hSA.2.2.1, (World.cell?_alloc_lt _ _ _ kl3).trans hSA.2.2.2⟩
        dsimp only
        refine hK.out _ _ hSA (fun _ => zA) ?_
        clear hK K
        (try simp only [Act.put, List.setIfInBounds_toArray, List.set_cons_zero, List.set_cons_succ])
        refine wpAnyB_ready (rs := [8]) (by kernel_rfl) (by simp) ?_
        refine AllReadyB.cons rfl (fun K hK => ?_) AllReadyB.nil
        go_simp
        refine hK.out _ _ hSB (fun _ => (World.cell?_alloc_lt _ _ _ hkA).trans zA) ?_
        clear hK K
        (try simp only [Act.put, List.setIfInBounds_toArray, List.set_cons_zero, List.set_cons_succ])
        refine wpAnyB_ready (rs := [9]) (by kernel_rfl) (by simp) ?_
        refine AllReadyB.cons rfl (fun K hK => ?_) AllReadyB.nil
        refine step_push1 (P := Try.prog) rfl _ _ 30 rfl i0 _ 64 Try.underlying30 HI.out HZ0.out HZ1.out HZ2.out rfl (by decide) PR_len' PR_mono' (by rfl) HOA.out (patOf v.ks[i]) 32 [.int .i64 (patOf v.ks[i]).op, .int .i64 (patOf v.ks[i]).ct, .int .i64 (patOf v.ks[i]).n, .int .i64 (patOf v.ks[i]).m, .int .i64 (patOf v.ks[i]).va, .slice A8 (patOf v.ks[i]).ks.length cap8] FA wA.heap.size (by rfl) rfl (by simp [Value.oneCell']) HPA.out (fun b hb => (HFsA.out b hb).2) (fun g hg hG => Nat.lt_irrefl _ (Nat.lt_of_lt_of_le (HO.out.row g hg).2 (HFsA.out g hG).1)) hmx hby hbs ?_
        intro g cp w7 hown7 hgr7 hat7
        have hrow7 := HOA.out.row
        have n7 : ∀ x, (x < w.heap.size + 2 + 1 ∨ wr.heap.size ≤ x) → some x ≠ (Value.ownBlock (.slice kA (patTo v.ks i).length kcap)) := fun x hx e => by
          have h1 := (hrow7 x (mem_rowOf.2 e.symm)).1
          have h2 := (HO.out.row x (mem_rowOf.2 e.symm)).2
          omega
        have l7 : wA.heap.size ≤ (wA.alloc (.cells [.int .i64 (patOf v.ks[i]).op, .int .i64 (patOf v.ks[i]).ct, .int .i64 (patOf v.ks[i]).n, .int .i64 (patOf v.ks[i]).m, .int .i64 (patOf v.ks[i]).va, .slice A8 (patOf v.ks[i]).ks.length cap8].toArray 32)).heap.size := by rw [World.size_alloc]; exact Nat.le_succ _
        have s7 : w7.cell? ⟨w.heap.size, 2, none⟩ = some (.slice (some ⟨b4, off4, none⟩) v.ks.length cap4) ∧ w7.cell? ⟨b4, off4 + i * 3, none⟩ = some (.int .i64 v.ks[i].c) ∧ w7.cell? ⟨b4, off4 + i * 3 + 1, none⟩ = some (.int .i64 v.ks[i].n) ∧ w7.cell? ⟨b4, off4 + i * 3 + 2, none⟩ = some (.slice A7 v.ks[i].ks.length cap7) := ⟨(World.grownBy.cell_far hgr7 ⟨w.heap.size, 2, none⟩ (Nat.lt_of_lt_of_le kl0 l7) (n7 (w.heap.size) (by omega))).trans hSB.1, (World.grownBy.cell_far hgr7 ⟨b4, off4 + i * 3, none⟩ (Nat.lt_of_lt_of_le kl1 l7) (n7 (b4) (by omega))).trans hSB.2.1, (World.grownBy.cell_far hgr7 ⟨b4, off4 + i * 3 + 1, none⟩ (Nat.lt_of_lt_of_le kl2 l7) (n7 (b4) (by omega))).trans hSB.2.2.1, (World.grownBy.cell_far hgr7 ⟨b4, off4 + i * 3 + 2, none⟩ (Nat.lt_of_lt_of_le kl3 l7) (n7 (b4) (by omega))).trans hSB.2.2.2⟩
        have z71 : w7.cell? ⟨w.heap.size + 2, 5, none⟩ = some (.slice kA (patTo v.ks i).length kcap) := (World.grownBy.cell_far hgr7 ⟨w.heap.size + 2, 5, none⟩ (Nat.lt_of_lt_of_le hkA l7) (n7 (w.heap.size + 2) (by omega))).trans ((World.cell?_alloc_lt _ _ _ hkA).trans zA)
        have zf71 : w7.frozen? ⟨w.heap.size + 2, 5, none⟩ = false := (World.grownBy.frozen_far hgr7 ⟨w.heap.size + 2, 5, none⟩ (Nat.lt_of_lt_of_le hkA l7) (n7 (w.heap.size + 2) (by omega))).trans (Eq.trans (World.frozen?_of_block (Below.heap_alloc _ _ _ hkA)) zfA)
        refine hK.out _ _ s7 (fun h => by cases h) ?_
        clear hK K
        (try simp only [Act.put, List.setIfInBounds_toArray, List.set_cons_zero, List.set_cons_succ])
        refine wpAnyB_take (i := 10) (v := ?_) rfl (by decide) (by kernel_rfl) (by kernel_rfl) (by kernel_rfl) (fun _ _ _ h => h) (Or.inl ⟨by rfl, ?hy10⟩) s7 (fun h => by cases h) ?_
        case hy10 => (intro W hSw; (try dsimp only at hSw); (obtain ⟨s0, s1, s2, s3⟩ := hSw); go_simp; try with_reducible rfl)
        (try simp only [Act.put, List.setIfInBounds_toArray, List.set_cons_zero, List.set_cons_succ])
        refine wpAnyB_ready (rs := [11]) (by kernel_rfl) (by simp) ?_
        refine AllReadyB.cons rfl (fun K hK => ?_) AllReadyB.nil
        go_simp
        refine hK.out _ _ ⟨(World.cell?_setCell_far _ _ _ _ (by show w.heap.size + 2 ≠ w.heap.size; omega)).trans s7.1, (World.cell?_setCell_far _ _ _ _ (by show w.heap.size + 2 ≠ b4; omega)).trans s7.2.1, (World.cell?_setCell_far _ _ _ _ (by show w.heap.size + 2 ≠ b4; omega)).trans s7.2.2.1, (World.cell?_setCell_far _ _ _ _ (by show w.heap.size + 2 ≠ b4; omega)).trans s7.2.2.2⟩ (fun h => by cases h) ?_
        clear hK K
        (try simp only [Act.put, List.setIfInBounds_toArray, List.set_cons_zero, List.set_cons_succ])
        refine wpAnyB_end (by kernel_rfl) ?_
        have HF2 := Lib.hid (patTo_succ v.ks i hil)
        obtain ⟨r1, r2, r3, r4, r5, r6, r7⟩ := kid_round 5 PR_mono' hs0 KD.out HO.out HFk.out HFh.out HC.out hB (by omega) (Nat.le_refl _) HBu.out HFrA.out HFsA.out hown7 hgr7
        have R1 := Lib.hid r1
        have R2 := Lib.hid r2
        have R3 := Lib.hid r3
        have R4 := Lib.hid r4
        have R5 := Lib.hid r5
        have R6 := Lib.hid r6
        clear r1 r2 r3 r4 r5 r6 hown7 hgr7 hat7 hrow7 n7 l7 s7 z71 zf71 hSA zA zfA hkA hSB hS1 hT1 zT zfT hkT HCALL
        go_wp2
        go_roundw
        case rel => exact ⟨i + 1, _, _, hil, by go_num, R1, by rw [HF2.out]; exact R2.out, R3, R4, R5, R6.out, r7⟩
        case measure => (simp [intOf] <;> omega)
      · have HO2 := HO.out
        rw [patTo_all v.ks (by omega)] at HO2
        have hln := congrArg List.length (patTo_all v.ks (i := i) (by omega))
        obtain ⟨FF, hf1, hf2, hf3⟩ := kid_done (H := w.heap.size + 2 + 1) HO2 HFk.out HFh.out (Nat.le_refl _)
        have HF1 := Lib.hid hf1
        have HF2 := Lib.hid hf2
        have HF3 := Lib.hid hf3
        have e0 := (KD.out.cell 0).trans (show _ = some (.int .i64 4) from by simp)
        have e1 := (KD.out.cell 1).trans (show _ = some (.int .i64 v.c) from by simp)
        have e2 := (KD.out.cell 2).trans (show _ = some (.int .i64 0) from by simp)
        have e3 := (KD.out.cell 3).trans (show _ = some (.int .i64 0) from by simp)
        have e4 := (KD.out.cell 4).trans (show _ = some (.int .i64 0) from by simp)
        have e5 := (KD.out.cell 5).trans (show _ = some (.slice kA (patTo v.ks i).length kcap) from by simp)
        have HLN := Lib.hid hln
        have RR := Lib.hid (R0.out.same (HC.out.block _ R0.out.lt (by simp)))
        have rlt := RR.out.lt
        have rc0 := (RR.out.cell 0).trans (show _ = some (.int .i64 0) from by simp)
        have rf0 := RR.out.frozen 0
        have rc1 := (RR.out.cell 1).trans (show _ = some (.int .i64 0) from by simp)
        have rf1 := RR.out.frozen 1
        have rc2 := (RR.out.cell 2).trans (show _ = some (.int .i64 0) from by simp)
        have rf2 := RR.out.frozen 2
        have rc3 := (RR.out.cell 3).trans (show _ = some (.int .i64 0) from by simp)
        have rf3 := RR.out.frozen 3
        have rc4 := (RR.out.cell 4).trans (show _ = some (.int .i64 0) from by simp)
        have rf4 := RR.out.frozen 4
        have rc5 := (RR.out.cell 5).trans (show _ = some (.slice none 0 0) from by simp)
        have rf5 := RR.out.frozen 5
        clear hf1 hf2 hf3 HO2 hln
        go_wp2
        clear e0 e1 e2 e3 e4 e5 rc0 rf0 rc1 rf1 rc2 rf2 rc3 rf3 rc4 rf4 rc5 rf5
        refine bodyPost_ret (results_cell_row rfl _ _ (w.heap.size + 1) 32 #[.int .i64 4, .int .i64 v.c, .int .i64 0, .int .i64 0, .int .i64 0, .slice kA (patTo v.ks i).length kcap] (0, 0) _ rfl (RR.out.six _ _ _ _ _ _) Try.underlying32 rfl rfl) rfl ?_
        have hkp : Kept FF wr _ := kept_six (w := wr) (H := w.heap.size + 1) (fun b hb => by have := (HF3.out b hb).1; omega) (.int .i64 4) (.int .i64 v.c) (.int .i64 0) (.int .i64 0) (.int .i64 0) (.slice kA (patTo v.ks i).length kcap)
        refine ⟨[.int .i64 4, .int .i64 v.c, .int .i64 0, .int .i64 0, .int .i64 0, .slice kA (patTo v.ks i).length kcap], FF, rfl, below_six hB (by omega) _ _ _ _ _ _, ?_, HF2.out.kept hkp, fun b hb => ⟨by have := (HF3.out b hb).1; omega, ?_⟩⟩
        · rw [HP.out]
          exact (PR_iff _ _ _).2 ⟨_, rfl, ArrP.mono (by rw [HLN.out]; exact HF1.out) hkp⟩
        · rw [size_six]; exact (HF3.out b hb).2
theorem spec_l3Of : ∀ v, PatOfP 71 v := V.indv spec_l3Of_of
end Go.Proofs.Ytbffkgfhcmigaaa

namespace Go.Proofs.Ytbffkgfhcmigaaa
open Go.RowKit

/-- a count of nodes that stops beyond a number -/
structure Upto (v : V) (most : Int) (c : Int) : Prop where
  lo : 1 ≤ c
  hi : c ≤ nodes v
  yes : (nodes v : Int) ≤ most → c = nodes v
  no : most < nodes v → most < c
def CountPost (v : V) (most : Int) (w : World) (e : Ending) (w' : World) : Prop := ∃ c : Int, e = .returned (.int .i64 c) ∧ Upto v most c ∧ Below w.heap.size w w'
/-- contract of l2Count at one value -/
def CountS (v : V) : Prop := ∀ (most : Int) (_ : 0 ≤ most) (_ : most ≤ 1000) (w : World) (cs : List Value) (G : List Nat), VR w v cs G → Under w.heap.size G → nodes v ≤ 2000000 →
  Calls Try.prog 136 #[.agg cs.toArray, .int .i64 most] w (CountPost v most w)

set_option maxRecDepth 100000 in
set_option maxHeartbeats 1600000 in
theorem l2Count_of (v : V) (ih : ∀ k ∈ v.ks, CountS k) : CountS v := by
  intro most hm0 hm1 w cs G hv hg hz
  obtain ⟨kv, rfl, ha⟩ := (VR_iff _ _ _).1 hv
  obtain ⟨A4, cap4, rfl, hc3, hc4⟩ := ha.form
  have IH := Lib.hid ih
  have HZ := Lib.hid hz
  have HA := Lib.hid ha
  have HG := Lib.hid hg
  clear ha hg
  clear ih hv hz
  have hkl : v.ks.length ≤ 2000000 := by have := HZ.out; rw [nodes_ks, V.sizes_eq] at this; omega
  go_enter Try.func136, Try.ntmps136
  go_wp2
  have hB0 : Below w.heap.size w (w.alloc (.cells #[.int .i64 v.c, .int .i64 v.n, .slice A4 v.ks.length cap4] 41)) := (Below.refl _ _).alloc (Nat.le_refl _) _
  have K0 : Hid (Blk (w.alloc (.cells #[.int .i64 v.c, .int .i64 v.n, .slice A4 v.ks.length cap4] 41)) w.heap.size 41 #[.int .i64 v.c, .int .i64 v.n, .slice A4 v.ks.length cap4]) := Blk.new _ _ _
  go_loopw [5, 6] (fun nv iv wr => ∃ i : Nat, ∃ n : Int, i ≤ v.ks.length ∧ iv = .int .i64 i ∧ nv = .int .i64 n ∧ 1 ≤ n ∧ n ≤ 2000000 ∧ Hid (n ≤ 1 + (V.sizes (v.ks.take i) : Nat) ∧ (1 + ((V.sizes (v.ks.take i) : Nat) : Int) ≤ most → n = 1 + (V.sizes (v.ks.take i) : Nat)) ∧ (most < 1 + ((V.sizes (v.ks.take i) : Nat) : Int) → most < n)) ∧ Hid (Blk wr w.heap.size 41 #[.int .i64 v.c, .int .i64 v.n, .slice A4 v.ks.length cap4]) ∧ Below w.heap.size w wr) (fun _ iv _ => v.ks.length - (intOf iv).toNat)
  case atStart => exact ⟨0, 1, Nat.zero_le _, rfl, rfl, by omega, by omega, ⟨by simp [V.sizes], fun _ => by simp [V.sizes], fun h => by simpa [V.sizes] using h⟩, K0, hB0⟩
  case round =>
    clear hB0 K0
    obtain ⟨i, n, hi, rfl, rfl, hn1, hn2, HN, KV, hB⟩ := hrel
    have z2 : wr.cell? ⟨w.heap.size, 2, none⟩ = some (.slice A4 v.ks.length cap4) := (KV.out.cell 2).trans (by simp)
    have klt := KV.out.lt
    have hend : (¬ (i < v.ks.length ∧ n ≤ most)) → CountPost v most w (.returned (.int .i64 n)) wr := fun h => by
      have h1 := HN.out
      have h2 := sizes_take_le v.ks i
      have h3 := nodes_ks v
      refine ⟨n, rfl, ⟨hn1, by omega, fun hy => ?_, fun hno => ?_⟩, hB⟩
      · by_cases hil : i < v.ks.length
        · have : ¬ n ≤ most := fun hnm => h ⟨hil, hnm⟩
          have := h1.2.1 (by omega)
          omega
        · rw [List.take_of_length_le (by omega)] at h1
          have := h1.2.1 (by omega)
          omega
      · by_cases hil : i < v.ks.length
        · have : ¬ n ≤ most := fun hnm => h ⟨hil, hnm⟩
          omega
        · rw [List.take_of_length_le (by omega)] at h1
          exact h1.2.2 (by omega)
    have HEnd := Lib.hid hend
    clear hend
    by_cases hil : i < v.ks.length
    · have t1 : decide ((i : Int) < (v.ks.length : Int)) = true := by simp; omega
      by_cases hnm : n ≤ most
      · have t2 : decide (n ≤ most) = true := by simpa using hnm
        obtain ⟨b4, off4, rfl⟩ := HA.out.ptr (by omega)
        obtain ⟨A7, cap7, G7, hb7, k0, k1, k2, HV7, HG7, -, -, -⟩ := ArrV.at HA.out HG.out hB i hil
        have g1 : (0 : Int) ≤ (i : Int) := by omega
        have g2 : (i : Int) < (v.ks.length : Int) := by omega
        have hst := sizes_step hil
        have hsl := sizes_take_le v.ks (i + 1)
        have hnk := nodes_ks v
        have hz := HZ.out
        have hkz : nodes v.ks[i] ≤ 2000000 := by omega
        have HKZ := Lib.hid hkz
        have HST := Lib.hid (And.intro hst (And.intro hsl hnk))
        clear hst hsl hnk hz hkz
        go_wp2_with fail
        refine (IH.out v.ks[i] (List.getElem_mem hil) (most - n) (by omega) (by omega) wr _ G7 (HV7.out.below hB HG7.out) (HG7.out.mono hB.size) HKZ.out).mono ?_
        rintro e w' ⟨c, rfl, hu, hB'⟩
        have hB3 := hB.trans (hB'.mono hB.size)
        have KV3 := Lib.hid (KV.out.same (hB'.block _ KV.out.lt))
        have hc1 := hu.lo
        have hN2 : Hid (n + c ≤ 1 + (V.sizes (v.ks.take (i + 1)) : Nat) ∧ (1 + ((V.sizes (v.ks.take (i + 1)) : Nat) : Int) ≤ most → n + c = 1 + (V.sizes (v.ks.take (i + 1)) : Nat)) ∧ (most < 1 + ((V.sizes (v.ks.take (i + 1)) : Nat) : Int) → most < n + c)) := by
          have h1 := HN.out
          obtain ⟨h2, h3, h4⟩ := HST.out
          have h5 := hu.hi
          have h6 := hu.yes
          have h7 := hu.no
          have h8 : n = 1 + ((V.sizes (v.ks.take i) : Nat) : Int) := by
            rcases Int.lt_or_le most (1 + ((V.sizes (v.ks.take i) : Nat) : Int)) with h | h
            · have := h1.2.2 h; omega
            · exact h1.2.1 h
          refine ⟨by omega, fun hy => ?_, fun hno => ?_⟩
          · have := h6 (by omega); omega
          · have := h7 (by omega); omega
        have hn3 : n + c ≤ 2000000 := by
          have h1 := hN2.out.1
          obtain ⟨h2, h3, h4⟩ := HST.out
          have := HZ.out
          omega
        clear hu t1 t2 z2 klt k0 k1 k2 hB'
        go_wp2
        go_roundw
        case rel => exact ⟨i + 1, n + c, by omega, by go_num, rfl, by omega, hn3, hN2, KV3, hB3⟩
        case measure => (simp [intOf] <;> omega)
      · have t2 : decide (n ≤ most) = false := by simpa using hnm
        have HFin := Lib.hid (HEnd.out (fun h => hnm h.2))
        go_wp2
        go_ret
        exact HFin.out
    · have t1 : decide ((i : Int) < (v.ks.length : Int)) = false := by simp; omega
      have HFin := Lib.hid (HEnd.out (fun h => hil h.1))
      go_wp2
      go_ret
      exact HFin.out
theorem spec_l2Count : ∀ v, CountS v := V.indv l2Count_of
end Go.Proofs.Ytbffkgfhcmigaaa

namespace Go.Proofs.Ytbffkgfhcmigaaa
open Go.RowKit

def scanB (xs : List Dt) (d : Nat) (t : Ty) (v : V) (c : Int) : Bool := fitsV xs d t v && decide (c + nodes v ≤ 60)
/-- what valueScan gives: whether the value fits and the count stays within 60, and then the count -/
def ScanPost (xs : List Dt) (d : Nat) (t : Ty) (v : V) (c : Int) (g : Nat) (w : World) (e : Ending) (w' : World) : Prop :=
  ∃ c' : Int, e = .returned (.bool (scanB xs d t v c)) ∧ Chg [g] w w' ∧ Blk w' g 3 #[.int .i64 c'] ∧ (scanB xs d t v c = true → c' = c + nodes v) ∧ 0 ≤ c'
/-- contract of valueScan at one value -/
def ScanI (v : V) : Prop := ∀ (xs : List Dt) (_ : WorldOK xs) (d deep : Nat) (_ : d + deep = 11) (_ : 1 ≤ deep) (t : Ty) (_ : TyIn xs.length t) (w : World) (x : Value) (F : List Nat) (cs : List Value) (G : List Nat) (g : Nat) (c : Int), Arr w (DtR w) xs x F → Under w.heap.size F → VR w v cs G → Under w.heap.size G →
  Blk w g 3 #[.int .i64 c] → g ∉ F → g ∉ G → 0 ≤ c → c ≤ 60 →
  Calls Try.prog 143 #[x, .agg #[.int .i64 t.d, .int .i64 t.i], .agg cs.toArray, .int .i64 (deep : Int), .bool false, .pointer (some ⟨g, 0, none⟩)] w (ScanPost xs d t v c g w)
theorem isNum_nodes {v : V} (h : isNum v = true) : nodes v = 1 := by
  unfold isNum at h
  simp only [Bool.and_eq_true, decide_eq_true_eq] at h
  rw [nodes_ks, List.length_eq_zero_iff.1 h.2.2]; rfl

set_option maxRecDepth 100000 in
set_option maxHeartbeats 1600000 in
theorem valueScan_of (v : V) (ih : ∀ k ∈ v.ks, ScanI k) : ScanI v := by
  intro xs hw d deep hdd hdp t ht w x F cs G g c hx hf hv hg hgb hgF hgG hc0 hc60
  obtain ⟨kv, rfl, ha⟩ := (VR_iff _ _ _).1 hv
  obtain ⟨A, cap, rfl, hc1, hc2⟩ := hx.form
  obtain ⟨A4, cap4, rfl, hc3, hc4⟩ := ha.form
  have HW := Lib.hid hw
  have IH := Lib.hid ih
  have HGF := Lib.hid hgF
  have HGG := Lib.hid hgG
  have hgl := hgb.lt
  have gx : w.cell? ⟨g, 0, none⟩ = some (.int .i64 c) := (hgb.cell 0).trans (by simp)
  have gf := hgb.frozen 0
  have HGB := Lib.hid hgb
  have HNP : Hid (1 ≤ nodes v) := by unfold nodes; exact Nat.le_add_right _ _
  have HX := Lib.hid hx
  have HF := Lib.hid hf
  have HA := Lib.hid ha
  have HG := Lib.hid hg
  clear hx hf ha hg
  clear hw ih hv hgF hgG hgb
  by_cases hcc : 60 < c + 1
  · have t9 : decide (c + 1 > 60) = true := by simpa using hcc
    have HT : Hid (scanB xs d t v c = false) := by
      have := HNP.out
      unfold Hid scanB; rw [decide_eq_false (by omega), Bool.and_false]
    have KG : Hid (Blk (((w.setCell ⟨g, 0, none⟩ (.int .i64 (c + 1))).alloc (.cells #[.int .i64 t.d, .int .i64 t.i] 37)).alloc (.cells #[.int .i64 v.c, .int .i64 v.n, .slice A4 v.ks.length cap4] 41)) g 3 #[.int .i64 (c + 1)]) := by
      have h1 : Blk (w.setCell ⟨g, 0, none⟩ (.int .i64 (c + 1))) g 3 #[.int .i64 (c + 1)] := HGB.out.set_ 0 (.int .i64 (c + 1))
      exact (h1.same (Below.heap_alloc _ _ _ h1.lt)).same (Below.heap_alloc _ _ _ (by have := h1.lt; simp; omega))
    have HCG : Hid (Chg [g] w (((w.setCell ⟨g, 0, none⟩ (.int .i64 (c + 1))).alloc (.cells #[.int .i64 t.d, .int .i64 t.i] 37)).alloc (.cells #[.int .i64 v.c, .int .i64 v.n, .slice A4 v.ks.length cap4] 41))) := (((Chg.refl [g] w).set (by simp)).step ((Below.refl _ _).alloc (Nat.le_refl _) _)).step ((Below.refl _ _).alloc (Nat.le_refl _) _)
    have hfin : ScanPost xs d t v c g w (.returned (.bool false)) (((w.setCell ⟨g, 0, none⟩ (.int .i64 (c + 1))).alloc (.cells #[.int .i64 t.d, .int .i64 t.i] 37)).alloc (.cells #[.int .i64 v.c, .int .i64 v.n, .slice A4 v.ks.length cap4] 41)) := ⟨c + 1, by rw [HT.out], HCG.out, KG.out, (fun h => by rw [HT.out] at h; cases h), by omega⟩
    have HFin := Lib.hid hfin
    clear hfin
    go_enter Try.func143, Try.ntmps143
    go_wp2
    go_ret
    exact HFin.out
  · have t9 : decide (c + 1 > 60) = false := by simp; omega
    cases d with
    | zero =>
      have t8 : decide ((deep : Int) > 10) = true := by simp; omega
      have HT : Hid (scanB xs 0 t v c = false) := rfl
      have KG : Hid (Blk (((w.setCell ⟨g, 0, none⟩ (.int .i64 (c + 1))).alloc (.cells #[.int .i64 t.d, .int .i64 t.i] 37)).alloc (.cells #[.int .i64 v.c, .int .i64 v.n, .slice A4 v.ks.length cap4] 41)) g 3 #[.int .i64 (c + 1)]) := by
        have h1 : Blk (w.setCell ⟨g, 0, none⟩ (.int .i64 (c + 1))) g 3 #[.int .i64 (c + 1)] := HGB.out.set_ 0 (.int .i64 (c + 1))
        exact (h1.same (Below.heap_alloc _ _ _ h1.lt)).same (Below.heap_alloc _ _ _ (by have := h1.lt; simp; omega))
      have HCG : Hid (Chg [g] w (((w.setCell ⟨g, 0, none⟩ (.int .i64 (c + 1))).alloc (.cells #[.int .i64 t.d, .int .i64 t.i] 37)).alloc (.cells #[.int .i64 v.c, .int .i64 v.n, .slice A4 v.ks.length cap4] 41))) := (((Chg.refl [g] w).set (by simp)).step ((Below.refl _ _).alloc (Nat.le_refl _) _)).step ((Below.refl _ _).alloc (Nat.le_refl _) _)
      have hfin : ScanPost xs 0 t v c g w (.returned (.bool false)) (((w.setCell ⟨g, 0, none⟩ (.int .i64 (c + 1))).alloc (.cells #[.int .i64 t.d, .int .i64 t.i] 37)).alloc (.cells #[.int .i64 v.c, .int .i64 v.n, .slice A4 v.ks.length cap4] 41)) := ⟨c + 1, by rw [HT.out], HCG.out, KG.out, (fun h => by rw [HT.out] at h; cases h), by omega⟩
      have HFin := Lib.hid hfin
      clear hfin
      go_enter Try.func143, Try.ntmps143
      go_wp2
      go_ret
      exact HFin.out
    | succ d =>
    have t8 : decide ((deep : Int) > 10) = false := by simp; omega
    obtain ⟨W3, hW3⟩ : ∃ W3, W3 = (((w.setCell ⟨g, 0, none⟩ (.int .i64 (c + 1))).alloc (.cells #[.int .i64 t.d, .int .i64 t.i] 37)).alloc (.cells #[.int .i64 v.c, .int .i64 v.n, .slice A4 v.ks.length cap4] 41)) := ⟨_, rfl⟩
    have KT : Hid (Blk W3 w.heap.size 37 #[.int .i64 t.d, .int .i64 t.i]) := by
      rw [hW3]
      have h := Blk.new (w.setCell ⟨g, 0, none⟩ (.int .i64 (c + 1))) 37 #[.int .i64 t.d, .int .i64 t.i]
      rw [show ((w.setCell ⟨g, 0, none⟩ (.int .i64 (c + 1)))).heap.size = w.heap.size from by simp [World.setCell]] at h
      exact h.same (Below.heap_alloc _ _ _ (by simp [World.setCell]))
    have KV : Hid (Blk W3 (w.heap.size + 1) 41 #[.int .i64 v.c, .int .i64 v.n, .slice A4 v.ks.length cap4]) := by
      rw [hW3]
      have h := Blk.new ((w.setCell ⟨g, 0, none⟩ (.int .i64 (c + 1))).alloc (.cells #[.int .i64 t.d, .int .i64 t.i] 37)) 41 #[.int .i64 v.c, .int .i64 v.n, .slice A4 v.ks.length cap4]
      rw [World.size_alloc, show ((w.setCell ⟨g, 0, none⟩ (.int .i64 (c + 1)))).heap.size = w.heap.size from by simp [World.setCell]] at h
      exact h
    have KG : Hid (Blk W3 g 3 #[.int .i64 (c + 1)]) := by
      rw [hW3]
      have h1 : Blk (w.setCell ⟨g, 0, none⟩ (.int .i64 (c + 1))) g 3 #[.int .i64 (c + 1)] := HGB.out.set_ 0 (.int .i64 (c + 1))
      exact (h1.same (Below.heap_alloc _ _ _ h1.lt)).same (Below.heap_alloc _ _ _ (by have := h1.lt; simp; omega))
    have HCG : Hid (Chg [g] w W3) := by
      rw [hW3]; exact (((Chg.refl [g] w).set (by simp)).step ((Below.refl _ _).alloc (Nat.le_refl _) _)).step ((Below.refl _ _).alloc (Nat.le_refl _) _)
    have HX3 : Hid (Arr W3 (DtR W3) xs (.slice A xs.length cap) F) := ArrDt.mono HX.out (HCG.out.kept HF.out (fun b hb h => HGF.out (by rw [← List.mem_singleton.1 h]; exact hb)))
    have HF3 := Lib.hid (HF.out.mono HCG.out.size)
    have HA3 : Hid (Arr W3 (VR W3) v.ks (.slice A4 v.ks.length cap4) G) := ArrV.mono HA.out (HCG.out.kept HG.out (fun b hb h => HGG.out (by rw [← List.mem_singleton.1 h]; exact hb)))
    have HG3 := Lib.hid (HG.out.mono HCG.out.size)
    have y0 : W3.cell? ⟨w.heap.size, 0, none⟩ = some (.int .i64 t.d) := (KT.out.cell 0).trans (by simp)
    have y1 : W3.cell? ⟨w.heap.size, 1, none⟩ = some (.int .i64 t.i) := (KT.out.cell 1).trans (by simp)
    have z0 : W3.cell? ⟨w.heap.size + 1, 0, none⟩ = some (.int .i64 v.c) := (KV.out.cell 0).trans (by simp)
    have z1 : W3.cell? ⟨w.heap.size + 1, 1, none⟩ = some (.int .i64 v.n) := (KV.out.cell 1).trans (by simp)
    have z2 : W3.cell? ⟨w.heap.size + 1, 2, none⟩ = some (.slice A4 v.ks.length cap4) := (KV.out.cell 2).trans (by simp)
    have klt := KT.out.lt
    have klt2 := KV.out.lt
    have hgl3 := KG.out.lt
    rcases ht with ht | ⟨q, r, rfl, hql, hrl⟩
    · have t0 : (t.d == -1) = true := by simp [ht]
      have hfi := fitsV_int (xs := xs) (d := d) (v := v) ht
      have hEnd : ∀ r : Bool, isNum v = r → ScanPost xs (d + 1) t v c g w (.returned (.bool r)) W3 := fun r hr => by
        have hT : scanB xs (d + 1) t v c = r := by
          unfold scanB
          rw [hfi, hr]
          cases r with
          | false => rfl
          | true => rw [isNum_nodes hr, Bool.true_and]; exact decide_eq_true (by omega)
        exact ⟨c + 1, by rw [hT], HCG.out, KG.out, (fun h => by rw [hT] at h; rw [isNum_nodes (hr.trans h)]; rfl), by omega⟩
      have HEnd := Lib.hid hEnd
      clear hEnd hfi ht
      cases q0 : (v.c == -1) with
      | false =>
        have HFin := Lib.hid (HEnd.out false (by unfold isNum; rw [q0]; rfl))
        go_enter Try.func143, Try.ntmps143
        go_wp2_with fail
        rw [← hW3]
        clear hW3
        go_wp2
        go_ret
        exact HFin.out
      | true =>
        cases q1 : withinB v.n 0 9 with
        | false =>
          have HFin := Lib.hid (HEnd.out false (by unfold isNum; rw [q0, q1]; rfl))
          have HQ1 := Lib.hid q1
          clear q1
          go_enter Try.func143, Try.ntmps143
          go_wp2_with fail
          rw [← hW3]
          clear hW3
          refine (impl_within v.n 0 9 W3).mono ?_
          rintro e w5 ⟨rfl, rfl⟩
          rw [HQ1.out]
          go_wp2
          go_ret
          exact HFin.out
        | true =>
          by_cases q2 : v.ks.length = 0
          · have HFin := Lib.hid (HEnd.out true (by unfold isNum; rw [q0, q1, decide_eq_true q2]; rfl))
            have t3 : ((v.ks.length : Int) == 0) = true := by simp [q2]
            have HQ1 := Lib.hid q1
            clear q1 q2
            go_enter Try.func143, Try.ntmps143
            go_wp2_with fail
            rw [← hW3]
            clear hW3
            refine (impl_within v.n 0 9 W3).mono ?_
            rintro e w5 ⟨rfl, rfl⟩
            rw [HQ1.out]
            go_wp2
            go_ret
            exact HFin.out
          · have HFin := Lib.hid (HEnd.out false (by unfold isNum; rw [q0, q1, decide_eq_false q2]; rfl))
            have t3 : ((v.ks.length : Int) == 0) = false := by simp; simpa using q2
            have HQ1 := Lib.hid q1
            clear q1 q2
            go_enter Try.func143, Try.ntmps143
            go_wp2_with fail
            rw [← hW3]
            clear hW3
            refine (impl_within v.n 0 9 W3).mono ?_
            rintro e w5 ⟨rfl, rfl⟩
            rw [HQ1.out]
            go_wp2
            go_ret
            exact HFin.out
    · have t0 : ((q : Int) == -1) = false := by rw [beq_eq_false_iff_ne]; omega
      have hfd := fitsV_data (xs := xs) (d := d) (v := v) (t := ⟨(q : Int), (r : Int)⟩) (by show ¬ ((q : Int) = -1); omega)
      have HFD := Lib.hid hfd
      clear hfd
      have HBad : Hid (∀ W c', fitsV xs (d + 1) ⟨(q : Int), (r : Int)⟩ v = false ∨ (60 : Int) < c + nodes v → Chg [g] w W → Blk W g 3 #[.int .i64 c'] → 0 ≤ c' → ScanPost xs (d + 1) ⟨(q : Int), (r : Int)⟩ v c g w (.returned (.bool false)) W) := fun W c' h hC hK hc' => by
        have hT : scanB xs (d + 1) ⟨(q : Int), (r : Int)⟩ v c = false := by
          unfold scanB
          rcases h with h | h
          · rw [h]; rfl
          · rw [decide_eq_false (by omega), Bool.and_false]
        exact ⟨c', by rw [hT], hC, hK, (fun h => by rw [hT] at h; cases h), hc'⟩
      go_enter Try.func143, Try.ntmps143
      go_wp2_with fail
      rw [← hW3]
      clear hW3
      cases q0 : (v.n == 0) with
      | false =>
        have t1 : (v.n != 0) = true := by rw [bne, q0]; rfl
        have HFin : Hid (∀ n, ScanPost xs (d + 1) ⟨(q : Int), (r : Int)⟩ v c g w (.returned (.bool false)) (W3.drewN n)) := fun n => HBad.out _ (c + 1) (.inl (by rw [HFD.out, q0]; rfl)) (HCG.out.drewN n) KG.out (by omega)
        clear q0
        go_quiet (fail)
        go_wp2
        go_ret
        exact HFin.out _
      | true =>
        have t1 : (v.n != 0) = false := by rw [bne, q0]; rfl
        have h1 : fitsV xs (d + 1) ⟨(q : Int), (r : Int)⟩ v = (hasB (ctorsL xs ⟨(q : Int), (r : Int)⟩) v.c && (decide (v.ks.length = (argsOf xs ⟨(q : Int), (r : Int)⟩ v.c).length) && zipAll (fitsV xs d) (argsOf xs ⟨(q : Int), (r : Int)⟩ v.c) v.ks)) := by rw [HFD.out, q0, Bool.true_and]
        have H1 := Lib.hid h1
        have HIW : Hid (InWorld xs.length ⟨(q : Int), (r : Int)⟩) := .inr ⟨q, rfl, hql⟩
        clear h1 q0
        have hBr := Below.refl W3.heap.size W3
        have hkeep : ∀ U U' : World, (U.cell? ⟨w.heap.size, 0, none⟩ = some (.int .i64 (q : Int)) ∧ U.cell? ⟨w.heap.size, 1, none⟩ = some (.int .i64 (r : Int)) ∧ U.cell? ⟨w.heap.size + 1, 0, none⟩ = some (.int .i64 v.c) ∧ U.cell? ⟨w.heap.size + 1, 1, none⟩ = some (.int .i64 v.n) ∧ U.cell? ⟨w.heap.size + 1, 2, none⟩ = some (.slice A4 v.ks.length cap4)) → Below U.heap.size U U' → W3.heap.size ≤ U.heap.size → (U'.cell? ⟨w.heap.size, 0, none⟩ = some (.int .i64 (q : Int)) ∧ U'.cell? ⟨w.heap.size, 1, none⟩ = some (.int .i64 (r : Int)) ∧ U'.cell? ⟨w.heap.size + 1, 0, none⟩ = some (.int .i64 v.c) ∧ U'.cell? ⟨w.heap.size + 1, 1, none⟩ = some (.int .i64 v.n) ∧ U'.cell? ⟨w.heap.size + 1, 2, none⟩ = some (.slice A4 v.ks.length cap4)) := fun U U' h hUU hU => ⟨(hUU.cell (Nat.lt_of_lt_of_le (klt) hU)).trans h.1, (hUU.cell (Nat.lt_of_lt_of_le (klt) hU)).trans h.2.1, (hUU.cell (Nat.lt_of_lt_of_le (klt2) hU)).trans h.2.2.1, (hUU.cell (Nat.lt_of_lt_of_le (klt2) hU)).trans h.2.2.2.1, (hUU.cell (Nat.lt_of_lt_of_le (klt2) hU)).trans h.2.2.2.2⟩
        have HKeep := Lib.hid hkeep
        clear hkeep
        go_region_held3 (fun w' => w'.cell? ⟨w.heap.size, 0, none⟩ = some (.int .i64 (q : Int)) ∧ w'.cell? ⟨w.heap.size, 1, none⟩ = some (.int .i64 (r : Int)) ∧ w'.cell? ⟨w.heap.size + 1, 0, none⟩ = some (.int .i64 v.c) ∧ w'.cell? ⟨w.heap.size + 1, 1, none⟩ = some (.int .i64 v.n) ∧ w'.cell? ⟨w.heap.size + 1, 2, none⟩ = some (.slice A4 v.ks.length cap4)) (first | assumption | (exact ⟨y0, y1, z0, z1, z2⟩) | (exact HKeep.out W3.drew w4 ⟨y0, y1, z0, z1, z2⟩ hb4 (Nat.le_refl _)) | (exact HKeep.out w4 w5 (by assumption) hb5 hlew4)) (first | (go_at_call 141; ((with_reducible refine (impl_ctorsOf xs ⟨(q : Int), (r : Int)⟩ _ _ F (ArrDt.below HX3.out hBr.drew HF3.out) (HF3.out.mono hBr.drew.size) HW.out HIW.out).mono ?_); rintro e w4 ⟨v4, F4, rfl, hb4, ha4, -, hfs4⟩); have hlew4 : W3.heap.size ≤ w4.heap.size := hb4.size) | (go_at_call 118; ((with_reducible refine (impl_has (ctorsL xs ⟨(q : Int), (r : Int)⟩) v.c _ _ F4 ha4 hfs4.under).mono ?_); rintro e w5 ⟨rfl, hb5⟩)))
        have hBa := hBr.drew.trans (hb4.mono hBr.drew.size)
        have hB5 := hBa.trans (hb5.mono hBa.size)
        have KT5 := Lib.hid (KT.out.same (hB5.block _ KT.out.lt))
        have KV5 := Lib.hid (KV.out.same (hB5.block _ KV.out.lt))
        have KG5 := Lib.hid (KG.out.same (hB5.block _ KG.out.lt))
        have HCG5 := Lib.hid (HCG.out.step hB5)
        have HX5 := Lib.hid (ArrDt.below HX3.out hB5 HF3.out)
        have HF5 := Lib.hid (HF3.out.mono hB5.size)
        have HA5 := Lib.hid (ArrV.below HA3.out hB5 HG3.out)
        have HG5 := Lib.hid (HG3.out.mono hB5.size)
        clear HKeep KT KV KG HCG HX3 HF3 HA3 HG3 y0 y1 z0 z1 z2 klt klt2 hBa hb4 hb5 ha4 hfs4 hBr t1 hgl3 gx gf
        cases e1 : hasB (ctorsL xs ⟨(q : Int), (r : Int)⟩) v.c with
        | false =>
          have HFin := Lib.hid (HBad.out w5 (c + 1) (.inl (by rw [H1.out, e1]; rfl)) HCG5.out KG5.out (by omega))
          clear e1
          go_wp2
          go_ret
          exact HFin.out
        | true =>
          obtain ⟨q', k, e2, hvc, hq', hkl⟩ := mem_ctorsL (xs := xs) (t := ⟨(q : Int), (r : Int)⟩) (.inr ⟨q, rfl, hql⟩) ((hasB_iff _ _).1 e1)
          obtain rfl : q = q' := Int.ofNat.inj e2
          have h2 := H1.out
          rw [e1, Bool.true_and, hvc, argsOf_get hql hkl] at h2
          have H2 := Lib.hid h2
          clear h2 e1 e2
          have HAI := Lib.hid (fun a ha => argTy_in (HW.out.ctor hql hkl) (i := (r : Int)) (by omega) (by omega) (a := a) ha)
          have HLA := Lib.hid (HW.out.ctor hql hkl).args
          have y0 : w5.cell? ⟨w.heap.size, 0, none⟩ = some (.int .i64 (q : Int)) := (KT5.out.cell 0).trans (by simp)
          have y1 : w5.cell? ⟨w.heap.size, 1, none⟩ = some (.int .i64 (r : Int)) := (KT5.out.cell 1).trans (by simp)
          have z0 : w5.cell? ⟨w.heap.size + 1, 0, none⟩ = some (.int .i64 v.c) := (KV5.out.cell 0).trans (by simp)
          have klt := KT5.out.lt
          have klt2 := KV5.out.lt
          have HVC := Lib.hid hvc
          clear hvc
          go_wp2_with fail
          rw [HVC.out]
          refine (impl_argTypes xs q k (r : Int) hql hkl w5 _ F HX5.out HF5.out HLA.out).mono ?_
          rintro e w6 ⟨v6, F6, rfl, hb6, ha6, -, hfs6⟩
          have KV6 := Lib.hid (KV5.out.same (hb6.block _ KV5.out.lt))
          have KG6 := Lib.hid (KG5.out.same (hb6.block _ KG5.out.lt))
          have HCG6 := Lib.hid (HCG5.out.step hb6)
          generalize hass : argsL xs[q].ctors[k] (r : Int) = ls at *
          clear hass
          obtain ⟨A6, cap6, rfl, hd3, hd4⟩ := ha6.form
          have HA6 : Hid (Arr w6 (TyR w6) ls (.slice A6 ls.length cap6) F6 ∧ Under w6.heap.size F6) := ⟨ha6, hfs6.under⟩
          have HN6 : Hid (∀ b ∈ F6, b ∉ [g]) := fun b hb h => by
            have h1 := (hfs6 b hb).1
            rw [List.mem_singleton.1 h] at h1
            have := KG5.out.lt
            omega
          clear ha6 hfs6 KT5 KV5 KG5 HCG5 HX5 HF5 HA5 HG5 y0 y1 z0 klt klt2 hB5 hb6
          have z2 : w6.cell? ⟨w.heap.size + 1, 2, none⟩ = some (.slice A4 v.ks.length cap4) := (KV6.out.cell 2).trans (by simp)
          have klt2 := KV6.out.lt
          by_cases hln : v.ks.length = ls.length
          · have t2 : ((ls.length : Int) != (v.ks.length : Int)) = false := by simp [hln]
            have h3 : fitsV xs (d + 1) ⟨(q : Int), (r : Int)⟩ v = zipAll (fitsV xs d) ls v.ks := by rw [H2.out, decide_eq_true hln, Bool.true_and]
            have H3 := Lib.hid h3
            have HLN := Lib.hid hln
            clear h3 hln
            go_wp2
            clear z2 klt2 t2
            go_loopw [90] (fun iv wr => ∃ i : Nat, ∃ ci : Int, i ≤ v.ks.length ∧ iv = .int .i64 i ∧ 0 ≤ ci ∧ ci ≤ 60 ∧ Hid (ci = c + 1 + (V.sizes (v.ks.take i) : Nat)) ∧ Hid (fitsV xs (d + 1) ⟨(q : Int), (r : Int)⟩ v = zipAll (fitsV xs d) (ls.drop i) (v.ks.drop i)) ∧ Hid (Blk wr g 3 #[.int .i64 ci]) ∧ Hid (Chg [g] w wr) ∧ Hid (Arr wr (TyR wr) ls (.slice A6 ls.length cap6) F6 ∧ Under wr.heap.size F6)) (fun iv _ => v.ks.length - (intOf iv).toNat)
            case atStart => exact ⟨0, c + 1, Nat.zero_le _, rfl, by omega, by omega, (by show c + 1 = c + 1 + ((0 : Nat) : Int); omega), H3, KG6, HCG6, HA6⟩
            case round =>
              clear KG6 HCG6 HA6 KV6
              obtain ⟨i, ci, hi, rfl, hci0, hci1, HCI, HR, KG, HCG, HA6⟩ := hrel
              by_cases hik : i < v.ks.length
              · have hil : i < ls.length := by rw [← HLN.out]; exact hik
                obtain ⟨b6, off6, rfl⟩ := HA6.out.1.ptr (by omega)
                have HAw := Lib.hid (ArrV.mono HA.out (HCG.out.kept HG.out (fun b hb h => HGG.out (by rw [← List.mem_singleton.1 h]; exact hb))))
                have HGw := Lib.hid (HG.out.mono HCG.out.size)
                have HXw := Lib.hid (ArrDt.mono HX.out (HCG.out.kept HF.out (fun b hb h => HGF.out (by rw [← List.mem_singleton.1 h]; exact hb))))
                have HFw := Lib.hid (HF.out.mono HCG.out.size)
                obtain ⟨b4, off4, rfl⟩ := HAw.out.ptr (by omega)
                obtain ⟨A7, cap7, G7, hb7, k0, k1, k2, HV7, HG7, hG7G, -, -⟩ := ArrV.at HAw.out HGw.out (Below.refl _ _) i hik
                have HN7 : Hid (g ∉ G7) := fun h => HGG.out (hG7G _ h)
                clear hG7G
                have g1 : (0 : Int) ≤ (i : Int) := by omega
                have g2 : (i : Int) < (ls.length : Int) := by omega
                have g3 : (i : Int) < (v.ks.length : Int) := by omega
                have hstep := HR.out
                rw [zipAll_step hil hik] at hstep
                have HST := Lib.hid hstep
                clear hstep
                have hwr : IntKind.i64.wrap ((deep : Int) + 1) = (deep : Int) + 1 := IntWalk.i64_in _ (by omega)
                obtain ⟨W7, hW7⟩ : ∃ W7, W7 = wr.alloc (.cells #[.int .i64 v.ks[i].c, .int .i64 v.ks[i].n, .slice A7 v.ks[i].ks.length cap7] 41) := ⟨_, rfl⟩
                have hb77 : Below wr.heap.size wr W7 := by rw [hW7]; exact (Below.refl _ _).alloc (Nat.le_refl _) _
                have KX : Hid (Blk W7 wr.heap.size 41 #[.int .i64 v.ks[i].c, .int .i64 v.ks[i].n, .slice A7 v.ks[i].ks.length cap7]) := by rw [hW7]; exact Blk.new _ _ _
                have KG7 := Lib.hid (KG.out.same (hb77.block _ KG.out.lt))
                have HCG7 := Lib.hid (HCG.out.step hb77)
                have HX7 := Lib.hid (ArrDt.below HXw.out hb77 HFw.out)
                have HF7 := Lib.hid (HFw.out.mono hb77.size)
                have HV77 := Lib.hid (HV7.out.below hb77 HG7.out)
                have HG77 := Lib.hid (HG7.out.mono hb77.size)
                have HA67 : Hid (Arr W7 (TyR W7) ls (.slice (some ⟨b6, off6, none⟩) ls.length cap6) F6 ∧ Under W7.heap.size F6) := ⟨ArrTy.below HA6.out.1 hb77 HA6.out.2, HA6.out.2.mono hb77.size⟩
                have hgw : g < wr.heap.size := KG.out.lt
                have hne7 : wr.heap.size ≠ g := by omega
                go_wp2_with fail
                rw [← hW7]
                clear hW7 k0 k1 k2 hb7 HAw HGw HXw HFw HV7 HG7 KG HCG HA6
                obtain ⟨hb6, a0, a1⟩ := ArrTy.at HA67.out.1 HA67.out.2 (Below.refl _ _) i hil
                have hb6n : b6 ≠ g := by
                  obtain ⟨b', off', cs', G', e', hb', -⟩ := HA67.out.1.get TyR_len hil
                  cases e'
                  exact fun e => HN6.out _ hb' (by rw [e]; exact List.mem_singleton.2 rfl)
                have k0 : W7.cell? ⟨wr.heap.size, 0, none⟩ = some (.int .i64 v.ks[i].c) := (KX.out.cell 0).trans (by simp)
                have k1 : W7.cell? ⟨wr.heap.size, 1, none⟩ = some (.int .i64 v.ks[i].n) := (KX.out.cell 1).trans (by simp)
                have k2 : W7.cell? ⟨wr.heap.size, 2, none⟩ = some (.slice A7 v.ks[i].ks.length cap7) := (KX.out.cell 2).trans (by simp)
                have kxl := KX.out.lt
                have HNE := Lib.hid (show b6 ∉ [g] from fun h => hb6n (List.mem_singleton.1 h))
                have HNE7 := Lib.hid (show wr.heap.size ∉ [g] from fun h => hne7 (List.mem_singleton.1 h))
                clear hb6n hne7 hgw
                have HCALL := Lib.hid (IH.out v.ks[i] (List.getElem_mem hik) xs HW.out d (deep + 1) (by omega) (by omega) ls[i] (HAI.out _ (List.getElem_mem hil)) W7.drew _ F _ G7 g ci (ArrDt.drew HX7.out) HF7.out HV77.out.drew HG77.out KG7.out HGF.out HN7.out hci0 hci1)
                rw [show ((deep + 1 : Nat) : Int) = (deep : Int) + 1 by omega] at HCALL
                go_region_held3 (fun w' => w'.cell? ⟨b6, off6 + i * 2, none⟩ = some (.int .i64 ls[i].d) ∧ w'.cell? ⟨b6, off6 + i * 2 + 1, none⟩ = some (.int .i64 ls[i].i) ∧ w'.cell? ⟨wr.heap.size, 0, none⟩ = some (.int .i64 v.ks[i].c) ∧ w'.cell? ⟨wr.heap.size, 1, none⟩ = some (.int .i64 v.ks[i].n) ∧ w'.cell? ⟨wr.heap.size, 2, none⟩ = some (.slice A7 v.ks[i].ks.length cap7)) (first | assumption | (exact ⟨a0, a1, k0, k1, k2⟩) | (exact ⟨(hC'.cell hb6 HNE.out).trans a0, (hC'.cell hb6 HNE.out).trans a1, (hC'.cell kxl HNE7.out).trans k0, (hC'.cell kxl HNE7.out).trans k1, (hC'.cell kxl HNE7.out).trans k2⟩)) (first | (go_at_call 143; ((with_reducible refine HCALL.out.mono ?_); rintro e w' ⟨c', rfl, hC', hK', hy', hp'⟩)))
                have hC2 := hC'.undrew
                have HCG8 := Lib.hid (HCG7.out.trans hC2)
                have HK8 := Lib.hid hK'
                have HA68 : Hid (Arr w' (TyR w') ls (.slice (some ⟨b6, off6, none⟩) ls.length cap6) F6 ∧ Under w'.heap.size F6) := ⟨ArrTy.mono HA67.out.1 (hC2.kept HA67.out.2 HN6.out), HA67.out.2.mono hC2.size⟩
                clear hwr hC' hC2 hK' a0 a1 k0 k1 k2
                cases e3 : scanB xs d ls[i] v.ks[i] ci with
                | false =>
                  have HFin := Lib.hid (HBad.out w' c' (by
                    unfold scanB at e3
                    rw [Bool.and_eq_false_iff] at e3
                    rcases e3 with h | h
                    · left; rw [HST.out, h]; rfl
                    · right
                      have h1 := of_decide_eq_false h
                      have h2 := HCI.out
                      have h3 := sizes_step hik
                      have h4 := sizes_take_le v.ks (i + 1)
                      have h5 := nodes_ks v
                      omega) HCG8.out HK8.out hp')
                  clear e3 hy'
                  go_wp2
                  go_ret
                  exact HFin.out
                | true =>
                  have hcc2 := hy' e3
                  unfold scanB at e3
                  rw [Bool.and_eq_true] at e3
                  have h60 := of_decide_eq_true e3.2
                  have hR2 : Hid (fitsV xs (d + 1) ⟨(q : Int), (r : Int)⟩ v = zipAll (fitsV xs d) (ls.drop (i + 1)) (v.ks.drop (i + 1))) := by rw [HST.out, e3.1, Bool.true_and]; rfl
                  have hCI2 : Hid (c' = c + 1 + (V.sizes (v.ks.take (i + 1)) : Nat)) := by
                    have h2 := HCI.out
                    have h3 := sizes_step hik
                    unfold Hid
                    omega
                  have hc60' : c' ≤ 60 := by omega
                  clear e3 hy' hcc2 h60
                  go_wp2
                  go_roundw
                  case rel => exact ⟨i + 1, c', by omega, by go_num, hp', hc60', hCI2, hR2, HK8, HCG8, HA68⟩
                  case measure => (simp [intOf] <;> omega)
              · have hT : scanB xs (d + 1) ⟨(q : Int), (r : Int)⟩ v c = true := by
                  unfold scanB
                  have h1 := HCI.out
                  have h5 := nodes_ks v
                  rw [List.take_of_length_le (by omega)] at h1
                  rw [HR.out, zipAll_end (by have := HLN.out; omega), Bool.true_and]
                  exact decide_eq_true (by omega)
                have hfin : ScanPost xs (d + 1) ⟨(q : Int), (r : Int)⟩ v c g w (.returned (.bool true)) wr := ⟨ci, by rw [hT], HCG.out, KG.out, fun _ => by
                  have h1 := HCI.out
                  have h5 := nodes_ks v
                  rw [List.take_of_length_le (by omega)] at h1
                  omega, hci0⟩
                have HFin := Lib.hid hfin
                clear hfin hT
                go_wp2
                go_ret
                exact HFin.out
          · have t2 : ((ls.length : Int) != (v.ks.length : Int)) = true := by rw [bne_iff_ne]; omega
            have HFin := Lib.hid (HBad.out w6 (c + 1) (.inl (by rw [H2.out, decide_eq_false hln]; rfl)) HCG6.out KG6.out (by omega))
            clear hln
            go_wp2
            go_ret
            exact HFin.out
theorem impl_valueScan : ∀ v, ScanI v := V.indv valueScan_of
end Go.Proofs.Ytbffkgfhcmigaaa

namespace Go.Proofs.Ytbffkgfhcmigaaa
open Go.RowKit

set_option maxRecDepth 100000 in
set_option maxHeartbeats 1600000 in
theorem spec_l2Is (xs : List Dt) (t : Ty) (v : V) (w : World) (x : Value) (F : List Nat) (cs : List Value) (G : List Nat) (hx : Arr w (DtR w) xs x F) (hf : Under w.heap.size F) (hv : VR w v cs G) (hg : Under w.heap.size G) (hw : WorldOK xs) (ht : TyIn xs.length t) (hz : v.size ≤ 1048576) :
    Calls Try.prog 86 #[x, .agg #[.int .i64 t.d, .int .i64 t.i], .agg cs.toArray] w fun e w' => e = .returned (.bool (valueOkB xs t v)) ∧ Below w.heap.size w w' := by
  obtain ⟨kv, rfl, ha⟩ := (VR_iff _ _ _).1 hv
  obtain ⟨A, cap, rfl, hc1, hc2⟩ := hx.form
  obtain ⟨A4, cap4, rfl, hc3, hc4⟩ := ha.form
  have HV := Lib.hid hv
  have HX := Lib.hid hx
  have HF := Lib.hid hf
  have HG := Lib.hid hg
  clear hx hf hg
  clear ha hv
  go_enter Try.func86, Try.ntmps86
  go_wp2_with fail
  obtain ⟨W2, hW2⟩ : ∃ W2, W2 = ((w.alloc (.cells #[.int .i64 t.d, .int .i64 t.i] 37)).alloc (.cells #[.int .i64 v.c, .int .i64 v.n, .slice A4 v.ks.length cap4] 41)) := ⟨_, rfl⟩
  have hB0 : Below w.heap.size w W2 := by rw [hW2]; exact ((Below.refl _ _).alloc (Nat.le_refl _) _).alloc (by simp) _
  have KT : Hid (Blk W2 w.heap.size 37 #[.int .i64 t.d, .int .i64 t.i]) := by rw [hW2]; exact (Blk.new w _ _).same (Below.heap_alloc _ _ _ (by simp))
  have KV : Hid (Blk W2 (w.heap.size + 1) 41 #[.int .i64 v.c, .int .i64 v.n, .slice A4 v.ks.length cap4]) := by rw [hW2]; have h := Blk.new (w.alloc (.cells #[.int .i64 t.d, .int .i64 t.i] 37)) 41 #[.int .i64 v.c, .int .i64 v.n, .slice A4 v.ks.length cap4]; rw [World.size_alloc] at h; exact h
  rw [← hW2]
  clear hW2
  refine (spec_l2Fits v xs hw 10 (Nat.le_refl _) t ht W2 _ F _ G (ArrDt.below HX.out hB0 HF.out) (HF.out.mono hB0.size) (HV.out.below hB0 HG.out) (HG.out.mono hB0.size)).mono ?_
  rintro e w3 ⟨rfl, hb3⟩
  have hB3 := hB0.trans (hb3.mono hB0.size)
  have KV3 := Lib.hid (KV.out.same (hb3.block _ KV.out.lt))
  have KT3 := Lib.hid (KT.out.same (hb3.block _ KT.out.lt))
  have y0 : w3.cell? ⟨w.heap.size, 0, none⟩ = some (.int .i64 t.d) := (KT3.out.cell 0).trans (by simp)
  have y1 : w3.cell? ⟨w.heap.size, 1, none⟩ = some (.int .i64 t.i) := (KT3.out.cell 1).trans (by simp)
  have z0 : w3.cell? ⟨w.heap.size + 1, 0, none⟩ = some (.int .i64 v.c) := (KV3.out.cell 0).trans (by simp)
  have z1 : w3.cell? ⟨w.heap.size + 1, 1, none⟩ = some (.int .i64 v.n) := (KV3.out.cell 1).trans (by simp)
  have z2 : w3.cell? ⟨w.heap.size + 1, 2, none⟩ = some (.slice A4 v.ks.length cap4) := (KV3.out.cell 2).trans (by simp)
  have klt := KT3.out.lt
  have klt2 := KV3.out.lt
  clear hb3 KT KV
  cases e1 : fitsV xs 10 t v with
  | false =>
    have hf : Hid (valueOkB xs t v = false) := by unfold Hid valueOkB; rw [e1]; rfl
    clear e1
    go_wp2
    go_ret
    exact ⟨ret_bool hf.out.symm, hB3⟩
  | true =>
    have hf : Hid (valueOkB xs t v = decide (nodes v ≤ 60)) := by unfold Hid valueOkB; rw [e1]; rfl
    clear e1
    go_wp2_with fail
    refine (spec_l2Count v 60 (by omega) (by omega) w3 _ G (HV.out.below hB3 HG.out) (HG.out.mono hB3.size) (by unfold nodes; omega)).mono ?_
    rintro e w4 ⟨c, rfl, hu, hb4⟩
    have hB4 := hB3.trans (hb4.mono hB3.size)
    have hcd : decide (c ≤ 60) = decide (nodes v ≤ 60) := by
      have h1 := hu.yes
      have h2 := hu.no
      by_cases h : nodes v ≤ 60
      · rw [decide_eq_true h]; exact decide_eq_true (by have := h1 (by omega); omega)
      · rw [decide_eq_false h]; exact decide_eq_false (by have := h2 (by omega); omega)
    have HCD := Lib.hid hcd
    clear hu hcd hb4
    go_wp2
    go_ret
    exact ⟨ret_bool (hf.out.trans HCD.out.symm).symm, hB4⟩

set_option maxRecDepth 100000 in
set_option maxHeartbeats 1600000 in
theorem impl_valueOk (xs : List Dt) (t : Ty) (v : V) (w : World) (x : Value) (F : List Nat) (cs : List Value) (G : List Nat) (hx : Arr w (DtR w) xs x F) (hf : Under w.heap.size F) (hv : VR w v cs G) (hg : Under w.heap.size G) (hw : WorldOK xs) (ht : TyIn xs.length t) (hz : v.size ≤ 1048576) :
    Calls Try.prog 90 #[x, .agg #[.int .i64 t.d, .int .i64 t.i], .agg cs.toArray] w fun e w' => e = .returned (.bool (valueOkB xs t v)) ∧ Below w.heap.size w w' := by
  obtain ⟨kv, rfl, ha⟩ := (VR_iff _ _ _).1 hv
  obtain ⟨A, cap, rfl, hc1, hc2⟩ := hx.form
  obtain ⟨A4, cap4, rfl, hc3, hc4⟩ := ha.form
  have HV := Lib.hid hv
  have HX := Lib.hid hx
  have HF := Lib.hid hf
  have HG := Lib.hid hg
  clear hx hf hg
  clear ha hv
  go_enter Try.func90, Try.ntmps90
  go_wp2_with fail
  obtain ⟨W2, hW2⟩ : ∃ W2, W2 = (((w.alloc (.cells #[.int .i64 t.d, .int .i64 t.i] 37)).alloc (.cells #[.int .i64 v.c, .int .i64 v.n, .slice A4 v.ks.length cap4] 41)).alloc (.cells #[.int .i64 0] 3)) := ⟨_, rfl⟩
  have hB0 : Below w.heap.size w W2 := by rw [hW2]; exact (((Below.refl _ _).alloc (Nat.le_refl _) _).alloc (by simp) _).alloc (by simp; omega) _
  have KG : Hid (Blk W2 (w.heap.size + 2) 3 #[.int .i64 0]) := by
    rw [hW2]
    have h := Blk.new ((w.alloc (.cells #[.int .i64 t.d, .int .i64 t.i] 37)).alloc (.cells #[.int .i64 v.c, .int .i64 v.n, .slice A4 v.ks.length cap4] 41)) 3 #[.int .i64 0]
    rw [show (((w.alloc (.cells #[.int .i64 t.d, .int .i64 t.i] 37)).alloc (.cells #[.int .i64 v.c, .int .i64 v.n, .slice A4 v.ks.length cap4] 41))).heap.size = w.heap.size + 2 from by simp] at h
    exact h
  rw [← hW2]
  clear hW2
  refine (impl_valueScan v xs hw 10 1 rfl (Nat.le_refl _) t ht W2 _ F _ G (w.heap.size + 2) 0 (ArrDt.below HX.out hB0 HF.out) (HF.out.mono hB0.size) (HV.out.below hB0 HG.out) (HG.out.mono hB0.size) KG.out (fun h => by have := HF.out _ h; omega) (fun h => by have := HG.out _ h; omega) (by omega) (by omega)).mono ?_
  rintro e w3 ⟨c', rfl, hC, -, -, -⟩
  have hB3 := hB0.trans (hC.below (B := w.heap.size) (fun b hb => by rw [List.mem_singleton.1 hb]; omega) hB0.size)
  have hf : Hid (valueOkB xs t v = scanB xs 10 t v 0) := by
    unfold Hid valueOkB scanB
    congr 1
    exact decide_eq_decide.2 (by omega)
  generalize hbb : scanB xs 10 t v 0 = bb at *
  clear hbb hC
  go_wp2
  go_ret
  exact ⟨ret_bool hf.out.symm, hB3⟩

set_option maxRecDepth 100000 in
set_option maxHeartbeats 1600000 in
theorem spec_ValueValid (xs : List Dt) (t : Ty) (v : V) (w : World) (x : Value) (F : List Nat) (cs : List Value) (G : List Nat) (hx : Arr w (DtR w) xs x F) (hf : Under w.heap.size F) (hv : VR w v cs G) (hg : Under w.heap.size G) (hz : v.size ≤ 1048576) :
    Calls Try.prog 61 #[x, .agg #[.int .i64 t.d, .int .i64 t.i], .agg cs.toArray] w fun e w' => e = .returned (.bool (valueValidB xs t v)) ∧ Below w.heap.size w w' := by
  obtain ⟨kv, rfl, ha⟩ := (VR_iff _ _ _).1 hv
  obtain ⟨A, cap, rfl, hc1, hc2⟩ := hx.form
  obtain ⟨A4, cap4, rfl, hc3, hc4⟩ := ha.form
  have HV := Lib.hid hv
  have HX := Lib.hid hx
  have HF := Lib.hid hf
  have HG := Lib.hid hg
  clear hx hf hg
  clear ha hv
  go_enter Try.func61, Try.ntmps61
  go_wp2_with fail
  obtain ⟨W2, hW2⟩ : ∃ W2, W2 = ((w.alloc (.cells #[.int .i64 t.d, .int .i64 t.i] 37)).alloc (.cells #[.int .i64 v.c, .int .i64 v.n, .slice A4 v.ks.length cap4] 41)) := ⟨_, rfl⟩
  have hB0 : Below w.heap.size w W2 := by rw [hW2]; exact ((Below.refl _ _).alloc (Nat.le_refl _) _).alloc (by simp) _
  have KT : Hid (Blk W2 w.heap.size 37 #[.int .i64 t.d, .int .i64 t.i]) := by rw [hW2]; exact (Blk.new w _ _).same (Below.heap_alloc _ _ _ (by simp))
  have KV : Hid (Blk W2 (w.heap.size + 1) 41 #[.int .i64 v.c, .int .i64 v.n, .slice A4 v.ks.length cap4]) := by rw [hW2]; have h := Blk.new (w.alloc (.cells #[.int .i64 t.d, .int .i64 t.i] 37)) 41 #[.int .i64 v.c, .int .i64 v.n, .slice A4 v.ks.length cap4]; rw [World.size_alloc] at h; exact h
  rw [← hW2]
  clear hW2
  have y0 : W2.cell? ⟨w.heap.size, 0, none⟩ = some (.int .i64 t.d) := (KT.out.cell 0).trans (by simp)
  refine (spec_TypeValid xs t W2 _ F (ArrDt.below HX.out hB0 HF.out) (HF.out.mono hB0.size)).mono ?_
  rintro e w3 ⟨rfl, hb3⟩
  have hB3 := hB0.trans (hb3.mono hB0.size)
  have KV3 := Lib.hid (KV.out.same (hb3.block _ KV.out.lt))
  have KT3 := Lib.hid (KT.out.same (hb3.block _ KT.out.lt))
  clear y0
  have y0 : w3.cell? ⟨w.heap.size, 0, none⟩ = some (.int .i64 t.d) := (KT3.out.cell 0).trans (by simp)
  have y1 : w3.cell? ⟨w.heap.size, 1, none⟩ = some (.int .i64 t.i) := (KT3.out.cell 1).trans (by simp)
  have z0 : w3.cell? ⟨w.heap.size + 1, 0, none⟩ = some (.int .i64 v.c) := (KV3.out.cell 0).trans (by simp)
  have z1 : w3.cell? ⟨w.heap.size + 1, 1, none⟩ = some (.int .i64 v.n) := (KV3.out.cell 1).trans (by simp)
  have z2 : w3.cell? ⟨w.heap.size + 1, 2, none⟩ = some (.slice A4 v.ks.length cap4) := (KV3.out.cell 2).trans (by simp)
  have klt := KT3.out.lt
  have klt2 := KV3.out.lt
  clear hb3 KT KV
  cases e1 : typeValidB xs t with
  | false =>
    have hf : Hid (valueValidB xs t v = false) := by unfold Hid valueValidB; rw [e1]; rfl
    clear e1
    go_wp2
    go_ret
    exact ⟨ret_bool hf.out.symm, hB3⟩
  | true =>
    have hf : Hid (valueValidB xs t v = valueOkB xs t v) := by unfold Hid valueValidB; rw [e1]; rfl
    obtain ⟨hw, hto⟩ := typeValid_split e1
    have HW := Lib.hid hw
    have HT := Lib.hid (typeOkB_tyIn hto)
    clear e1 hw hto
    go_wp2_with fail
    refine (spec_l2Is xs t v w3 _ F _ G (ArrDt.below HX.out hB3 HF.out) (HF.out.mono hB3.size) (HV.out.below hB3 HG.out) (HG.out.mono hB3.size) HW.out HT.out hz).mono ?_
    rintro e w4 ⟨rfl, hb4⟩
    have hB4 := hB3.trans (hb4.mono hB3.size)
    generalize hbb : valueOkB xs t v = bb
    have HBB := Lib.hid hbb
    clear hbb
    go_wp2
    go_ret
    exact ⟨ret_bool (hf.out.trans HBB.out).symm, hB4⟩

set_option maxRecDepth 100000 in
set_option maxHeartbeats 1600000 in
theorem impl_ValueValid (xs : List Dt) (t : Ty) (v : V) (w : World) (x : Value) (F : List Nat) (cs : List Value) (G : List Nat) (hx : Arr w (DtR w) xs x F) (hf : Under w.heap.size F) (hv : VR w v cs G) (hg : Under w.heap.size G) (hz : v.size ≤ 1048576) :
    Calls Try.prog 60 #[x, .agg #[.int .i64 t.d, .int .i64 t.i], .agg cs.toArray] w fun e w' => e = .returned (.bool (valueValidB xs t v)) ∧ Below w.heap.size w w' := by
  obtain ⟨kv, rfl, ha⟩ := (VR_iff _ _ _).1 hv
  obtain ⟨A, cap, rfl, hc1, hc2⟩ := hx.form
  obtain ⟨A4, cap4, rfl, hc3, hc4⟩ := ha.form
  have HV := Lib.hid hv
  have HX := Lib.hid hx
  have HF := Lib.hid hf
  have HG := Lib.hid hg
  clear hx hf hg
  clear ha hv
  go_enter Try.func60, Try.ntmps60
  go_wp2_with fail
  obtain ⟨W2, hW2⟩ : ∃ W2, W2 = ((w.alloc (.cells #[.int .i64 t.d, .int .i64 t.i] 37)).alloc (.cells #[.int .i64 v.c, .int .i64 v.n, .slice A4 v.ks.length cap4] 41)) := ⟨_, rfl⟩
  have hB0 : Below w.heap.size w W2 := by rw [hW2]; exact ((Below.refl _ _).alloc (Nat.le_refl _) _).alloc (by simp) _
  have KT : Hid (Blk W2 w.heap.size 37 #[.int .i64 t.d, .int .i64 t.i]) := by rw [hW2]; exact (Blk.new w _ _).same (Below.heap_alloc _ _ _ (by simp))
  have KV : Hid (Blk W2 (w.heap.size + 1) 41 #[.int .i64 v.c, .int .i64 v.n, .slice A4 v.ks.length cap4]) := by rw [hW2]; have h := Blk.new (w.alloc (.cells #[.int .i64 t.d, .int .i64 t.i] 37)) 41 #[.int .i64 v.c, .int .i64 v.n, .slice A4 v.ks.length cap4]; rw [World.size_alloc] at h; exact h
  rw [← hW2]
  clear hW2
  have y0 : W2.cell? ⟨w.heap.size, 0, none⟩ = some (.int .i64 t.d) := (KT.out.cell 0).trans (by simp)
  refine (impl_TypeValid xs t W2 _ F (ArrDt.below HX.out hB0 HF.out) (HF.out.mono hB0.size)).mono ?_
  rintro e w3 ⟨rfl, hb3⟩
  have hB3 := hB0.trans (hb3.mono hB0.size)
  have KV3 := Lib.hid (KV.out.same (hb3.block _ KV.out.lt))
  have KT3 := Lib.hid (KT.out.same (hb3.block _ KT.out.lt))
  clear y0
  have y0 : w3.cell? ⟨w.heap.size, 0, none⟩ = some (.int .i64 t.d) := (KT3.out.cell 0).trans (by simp)
  have y1 : w3.cell? ⟨w.heap.size, 1, none⟩ = some (.int .i64 t.i) := (KT3.out.cell 1).trans (by simp)
  have z0 : w3.cell? ⟨w.heap.size + 1, 0, none⟩ = some (.int .i64 v.c) := (KV3.out.cell 0).trans (by simp)
  have z1 : w3.cell? ⟨w.heap.size + 1, 1, none⟩ = some (.int .i64 v.n) := (KV3.out.cell 1).trans (by simp)
  have z2 : w3.cell? ⟨w.heap.size + 1, 2, none⟩ = some (.slice A4 v.ks.length cap4) := (KV3.out.cell 2).trans (by simp)
  have klt := KT3.out.lt
  have klt2 := KV3.out.lt
  clear hb3 KT KV
  cases e1 : typeValidB xs t with
  | false =>
    have hf : Hid (valueValidB xs t v = false) := by unfold Hid valueValidB; rw [e1]; rfl
    clear e1
    go_wp2
    go_ret
    exact ⟨ret_bool hf.out.symm, hB3⟩
  | true =>
    have hf : Hid (valueValidB xs t v = valueOkB xs t v) := by unfold Hid valueValidB; rw [e1]; rfl
    obtain ⟨hw, hto⟩ := typeValid_split e1
    have HW := Lib.hid hw
    have HT := Lib.hid (typeOkB_tyIn hto)
    clear e1 hw hto
    go_wp2_with fail
    refine (impl_valueOk xs t v w3 _ F _ G (ArrDt.below HX.out hB3 HF.out) (HF.out.mono hB3.size) (HV.out.below hB3 HG.out) (HG.out.mono hB3.size) HW.out HT.out hz).mono ?_
    rintro e w4 ⟨rfl, hb4⟩
    have hB4 := hB3.trans (hb4.mono hB3.size)
    generalize hbb : valueOkB xs t v = bb
    have HBB := Lib.hid hbb
    clear hbb
    go_wp2
    go_ret
    exact ⟨ret_bool (hf.out.trans HBB.out).symm, hB4⟩
end Go.Proofs.Ytbffkgfhcmigaaa

namespace Go.Proofs.Ytbffkgfhcmigaaa
open Go.RowKit

/-- a call gives a pattern of its own, and whether there is one -/
def MadeP2 (p : P) (b : Bool) (w : World) (e : Ending) (w' : World) : Prop := ∃ cs F, e = .returned (.tuple #[.agg cs.toArray, .bool b]) ∧ Below w.heap.size w w' ∧ PR w' p cs F ∧ Free w' F ∧ Fresh w w' F
def zeroP : P := ⟨0, 0, 0, 0, 0, []⟩
def patternOfR (xs : List Dt) (t : Ty) (v : V) : P := if valueValidB xs t v = true then patOf v else zeroP
theorem patOf_size : ∀ v : V, (patOf v).size ≤ v.size := V.indv fun v ih => by
  by_cases h : v.c = -1
  · rw [patOf_num h]; simp [P.size, P.sizes]
  · rw [patOf_ctor h]
    obtain ⟨c, n, ks⟩ := v
    simp only [P.size, V.size]
    have key : ∀ l : List V, (∀ k ∈ l, (patOf k).size ≤ k.size) → P.sizes (l.map patOf) ≤ V.sizes l := by
      intro l
      induction l with
      | nil => intro _; simp [P.sizes, V.sizes]
      | cons a l ihl =>
        intro hl
        have h1 := hl a (by simp)
        have h2 := ihl fun k hk => hl k (by simp [hk])
        simp only [List.map_cons, P.sizes, V.sizes]
        omega
    exact key ks ih
theorem patternOfR_size (xs : List Dt) (t : Ty) (v : V) : (patternOfR xs t v).size ≤ v.size := by
  unfold patternOfR
  split
  · exact patOf_size v
  · simp [zeroP, P.size, P.sizes]

set_option maxRecDepth 100000 in
set_option maxHeartbeats 1600000 in
theorem spec_PatternOf (xs : List Dt) (t : Ty) (v : V) (w : World) (x : Value) (F : List Nat) (cs : List Value) (G : List Nat) (hx : Arr w (DtR w) xs x F) (hf : Under w.heap.size F) (hv : VR w v cs G) (hg : Under w.heap.size G) (hz : v.size ≤ 1048576) :
    Calls Try.prog 17 #[x, .agg #[.int .i64 t.d, .int .i64 t.i], .agg cs.toArray] w (MadeP2 (patternOfR xs t v) (valueValidB xs t v) w) := by
  obtain ⟨kv, rfl, ha⟩ := (VR_iff _ _ _).1 hv
  obtain ⟨A, cap, rfl, hc1, hc2⟩ := hx.form
  obtain ⟨A4, cap4, rfl, hc3, hc4⟩ := ha.form
  have HV := Lib.hid hv
  have HX := Lib.hid hx
  have HF := Lib.hid hf
  have HG := Lib.hid hg
  clear hx hf hg
  clear ha hv
  go_enter Try.func17, Try.ntmps17
  go_wp2_with fail
  obtain ⟨W2, hW2⟩ : ∃ W2, W2 = (((w.alloc (.cells #[.int .i64 t.d, .int .i64 t.i] 37)).alloc (.cells #[.int .i64 v.c, .int .i64 v.n, .slice A4 v.ks.length cap4] 41)).alloc (.cells #[.int .i64 0, .int .i64 0, .int .i64 0, .int .i64 0, .int .i64 0, .slice none 0 0] 32)) := ⟨_, rfl⟩
  have hB0 : Below w.heap.size w W2 := by rw [hW2]; exact (((Below.refl _ _).alloc (Nat.le_refl _) _).alloc (by simp) _).alloc (by simp; omega) _
  have KT : Hid (Blk W2 w.heap.size 37 #[.int .i64 t.d, .int .i64 t.i]) := by rw [hW2]; exact ((Blk.new w _ _).same (Below.heap_alloc _ _ _ (by simp))).same (Below.heap_alloc _ _ _ (by simp; omega))
  have KV : Hid (Blk W2 (w.heap.size + 1) 41 #[.int .i64 v.c, .int .i64 v.n, .slice A4 v.ks.length cap4]) := by rw [hW2]; exact (blk_second w _ 41 #[.int .i64 v.c, .int .i64 v.n, .slice A4 v.ks.length cap4]).same (Below.heap_alloc _ _ _ (by simp))
  have KR : Hid (Blk W2 (w.heap.size + 2) 32 #[.int .i64 0, .int .i64 0, .int .i64 0, .int .i64 0, .int .i64 0, .slice none 0 0]) := by
    rw [hW2]
    have h := Blk.new ((w.alloc (.cells #[.int .i64 t.d, .int .i64 t.i] 37)).alloc (.cells #[.int .i64 v.c, .int .i64 v.n, .slice A4 v.ks.length cap4] 41)) 32 #[.int .i64 0, .int .i64 0, .int .i64 0, .int .i64 0, .int .i64 0, .slice none 0 0]
    rw [show ((w.alloc (.cells #[.int .i64 t.d, .int .i64 t.i] 37)).alloc (.cells #[.int .i64 v.c, .int .i64 v.n, .slice A4 v.ks.length cap4] 41)).heap.size = w.heap.size + 2 from by simp] at h
    exact h
  rw [← hW2]
  clear hW2
  have y0 : W2.cell? ⟨w.heap.size, 0, none⟩ = some (.int .i64 t.d) := (KT.out.cell 0).trans (by simp)
  have y1 : W2.cell? ⟨w.heap.size, 1, none⟩ = some (.int .i64 t.i) := (KT.out.cell 1).trans (by simp)
  have z0 : W2.cell? ⟨w.heap.size + 1, 0, none⟩ = some (.int .i64 v.c) := (KV.out.cell 0).trans (by simp)
  have z1 : W2.cell? ⟨w.heap.size + 1, 1, none⟩ = some (.int .i64 v.n) := (KV.out.cell 1).trans (by simp)
  have z2 : W2.cell? ⟨w.heap.size + 1, 2, none⟩ = some (.slice A4 v.ks.length cap4) := (KV.out.cell 2).trans (by simp)
  have klt := KT.out.lt
  have klt2 := KV.out.lt
  go_wp2_with fail
  refine (spec_ValueValid xs t v W2 _ F _ G (ArrDt.below HX.out hB0 HF.out) (HF.out.mono hB0.size) (HV.out.below hB0 HG.out) (HG.out.mono hB0.size) hz).mono ?_
  rintro e w3 ⟨rfl, hb3⟩
  have hB3 := hB0.trans (hb3.mono hB0.size)
  have KV3 := Lib.hid (KV.out.same (hb3.block _ KV.out.lt))
  have KT3 := Lib.hid (KT.out.same (hb3.block _ KT.out.lt))
  have KR3 := Lib.hid (KR.out.same (hb3.block _ KR.out.lt))
  clear y0 y1 z0 z1 z2 klt klt2
  have y0 : w3.cell? ⟨w.heap.size, 0, none⟩ = some (.int .i64 t.d) := (KT3.out.cell 0).trans (by simp)
  have y1 : w3.cell? ⟨w.heap.size, 1, none⟩ = some (.int .i64 t.i) := (KT3.out.cell 1).trans (by simp)
  have z0 : w3.cell? ⟨w.heap.size + 1, 0, none⟩ = some (.int .i64 v.c) := (KV3.out.cell 0).trans (by simp)
  have z1 : w3.cell? ⟨w.heap.size + 1, 1, none⟩ = some (.int .i64 v.n) := (KV3.out.cell 1).trans (by simp)
  have z2 : w3.cell? ⟨w.heap.size + 1, 2, none⟩ = some (.slice A4 v.ks.length cap4) := (KV3.out.cell 2).trans (by simp)
  have klt := KT3.out.lt
  have klt2 := KV3.out.lt
  clear hb3 KT KV KR
  cases e1 : valueValidB xs t v with
  | false =>
    have hf : Hid (patternOfR xs t v = zeroP) := by unfold Hid patternOfR; rw [e1]; rfl
    have HE := Lib.hid e1
    clear e1
    have rc0 := (KR3.out.cell 0).trans (show _ = some (.int .i64 0) from by simp)
    have rf0 := KR3.out.frozen 0
    have rc1 := (KR3.out.cell 1).trans (show _ = some (.int .i64 0) from by simp)
    have rf1 := KR3.out.frozen 1
    have rc2 := (KR3.out.cell 2).trans (show _ = some (.int .i64 0) from by simp)
    have rf2 := KR3.out.frozen 2
    have rc3 := (KR3.out.cell 3).trans (show _ = some (.int .i64 0) from by simp)
    have rf3 := KR3.out.frozen 3
    have rc4 := (KR3.out.cell 4).trans (show _ = some (.int .i64 0) from by simp)
    have rf4 := KR3.out.frozen 4
    have rc5 := (KR3.out.cell 5).trans (show _ = some (.slice none 0 0) from by simp)
    have rf5 := KR3.out.frozen 5
    have rlt := KR3.out.lt
    go_wp2
    clear rc0 rf0 rc1 rf1 rc2 rf2 rc3 rf3 rc4 rf4 rc5 rf5 rlt
    refine bodyPost_ret (results_cell_tmp rfl _ _ (w.heap.size + 2) 32 #[.int .i64 0, .int .i64 0, .int .i64 0, .int .i64 0, .int .i64 0, .slice none 0 0] (0, 0) _ rfl (KR3.out.six _ _ _ _ _ _) Try.underlying32 rfl rfl) rfl ?_
    exact ⟨[.int .i64 0, .int .i64 0, .int .i64 0, .int .i64 0, .int .i64 0, .slice none 0 0], [], by rw [HE.out]; rfl, below_six hB3 (by omega) _ _ _ _ _ _, by rw [hf.out]; exact (PR_iff _ _ _).2 ⟨_, rfl, Arr.nil⟩, Free.nil _, Fresh.nil _ _⟩
  | true =>
    have hf : Hid (patternOfR xs t v = patOf v) := by unfold Hid patternOfR; rw [e1]; rfl
    have HE := Lib.hid e1
    clear e1
    go_wp2_with fail
    refine (spec_l3Of v w3 _ G (HV.out.below hB3 HG.out) (HG.out.mono hB3.size) hz).mono ?_
    rintro e w4 ⟨cs4, F4, rfl, hb4, hp4, hfr4, hfs4⟩
    obtain ⟨kv4, rfl, ha4⟩ := (PR_iff _ _ _).1 hp4
    obtain ⟨A5, cap5, rfl, -, -⟩ := ha4.form
    have hB4 := hB3.trans (hb4.mono hB3.size)
    have KR4 := Lib.hid (KR3.out.same (hb4.block _ KR3.out.lt))
    have HN4 : Hid (∀ b ∈ F4, b ≠ w.heap.size + 2) := fun b hb e => by have h1 := (hfs4 b hb).1; have h2 := KR3.out.lt; omega
    have HP4 := Lib.hid hp4
    have HFR4 := Lib.hid hfr4
    have HFS4 : Hid (Fresh w w4 F4) := fun b hb => ⟨Nat.le_trans hB3.size (hfs4 b hb).1, (hfs4 b hb).2⟩
    clear hp4 hfr4 hfs4 hb4 ha4 y0 y1 z0 z1 z2 klt klt2
    generalize (patOf v).ks.length = n5 at *
    generalize (patOf v).op = c0 at *
    generalize (patOf v).ct = c1 at *
    generalize (patOf v).n = c2 at *
    generalize (patOf v).m = c3 at *
    generalize (patOf v).va = c4 at *
    have rc0 := (KR4.out.cell 0).trans (show _ = some (.int .i64 0) from by simp)
    have rf0 := KR4.out.frozen 0
    have rc1 := (KR4.out.cell 1).trans (show _ = some (.int .i64 0) from by simp)
    have rf1 := KR4.out.frozen 1
    have rc2 := (KR4.out.cell 2).trans (show _ = some (.int .i64 0) from by simp)
    have rf2 := KR4.out.frozen 2
    have rc3 := (KR4.out.cell 3).trans (show _ = some (.int .i64 0) from by simp)
    have rf3 := KR4.out.frozen 3
    have rc4 := (KR4.out.cell 4).trans (show _ = some (.int .i64 0) from by simp)
    have rf4 := KR4.out.frozen 4
    have rc5 := (KR4.out.cell 5).trans (show _ = some (.slice none 0 0) from by simp)
    have rf5 := KR4.out.frozen 5
    have rlt := KR4.out.lt
    go_wp2
    clear rc0 rf0 rc1 rf1 rc2 rf2 rc3 rf3 rc4 rf4 rc5 rf5 rlt
    refine bodyPost_ret (results_cell_tmp rfl _ _ (w.heap.size + 2) 32 #[.int .i64 c0, .int .i64 c1, .int .i64 c2, .int .i64 c3, .int .i64 c4, .slice A5 n5 cap5] (0, 0) _ rfl (KR4.out.six _ _ _ _ _ _) Try.underlying32 rfl rfl) rfl ?_
    have hkp : Kept F4 w4 _ := kept_six (w := w4) (H := w.heap.size + 2) HN4.out (.int .i64 c0) (.int .i64 c1) (.int .i64 c2) (.int .i64 c3) (.int .i64 c4) (.slice A5 n5 cap5)
    exact ⟨[.int .i64 c0, .int .i64 c1, .int .i64 c2, .int .i64 c3, .int .i64 c4, .slice A5 n5 cap5], F4, by rw [HE.out]; rfl, below_six hB4 (by omega) _ _ _ _ _ _, by rw [hf.out]; exact PR.mono _ _ _ hkp HP4.out, HFR4.out.kept hkp, fun b hb => ⟨(HFS4.out b hb).1, by rw [size_six]; exact (HFS4.out b hb).2⟩⟩

set_option maxRecDepth 100000 in
set_option maxHeartbeats 1600000 in
theorem impl_PatternOf (xs : List Dt) (t : Ty) (v : V) (w : World) (x : Value) (F : List Nat) (cs : List Value) (G : List Nat) (hx : Arr w (DtR w) xs x F) (hf : Under w.heap.size F) (hv : VR w v cs G) (hg : Under w.heap.size G) (hz : v.size ≤ 1048576) :
    Calls Try.prog 21 #[x, .agg #[.int .i64 t.d, .int .i64 t.i], .agg cs.toArray] w (MadeP2 (patternOfR xs t v) (valueValidB xs t v) w) := by
  obtain ⟨kv, rfl, ha⟩ := (VR_iff _ _ _).1 hv
  obtain ⟨A, cap, rfl, hc1, hc2⟩ := hx.form
  obtain ⟨A4, cap4, rfl, hc3, hc4⟩ := ha.form
  have HV := Lib.hid hv
  have HX := Lib.hid hx
  have HF := Lib.hid hf
  have HG := Lib.hid hg
  clear hx hf hg
  clear ha hv
  go_enter Try.func21, Try.ntmps21
  go_wp2_with fail
  obtain ⟨W2, hW2⟩ : ∃ W2, W2 = (((w.alloc (.cells #[.int .i64 t.d, .int .i64 t.i] 37)).alloc (.cells #[.int .i64 v.c, .int .i64 v.n, .slice A4 v.ks.length cap4] 41)).alloc (.cells #[.int .i64 0, .int .i64 0, .int .i64 0, .int .i64 0, .int .i64 0, .slice none 0 0] 32)) := ⟨_, rfl⟩
  have hB0 : Below w.heap.size w W2 := by rw [hW2]; exact (((Below.refl _ _).alloc (Nat.le_refl _) _).alloc (by simp) _).alloc (by simp; omega) _
  have KT : Hid (Blk W2 w.heap.size 37 #[.int .i64 t.d, .int .i64 t.i]) := by rw [hW2]; exact ((Blk.new w _ _).same (Below.heap_alloc _ _ _ (by simp))).same (Below.heap_alloc _ _ _ (by simp; omega))
  have KV : Hid (Blk W2 (w.heap.size + 1) 41 #[.int .i64 v.c, .int .i64 v.n, .slice A4 v.ks.length cap4]) := by rw [hW2]; exact (blk_second w _ 41 #[.int .i64 v.c, .int .i64 v.n, .slice A4 v.ks.length cap4]).same (Below.heap_alloc _ _ _ (by simp))
  have KR : Hid (Blk W2 (w.heap.size + 2) 32 #[.int .i64 0, .int .i64 0, .int .i64 0, .int .i64 0, .int .i64 0, .slice none 0 0]) := by
    rw [hW2]
    have h := Blk.new ((w.alloc (.cells #[.int .i64 t.d, .int .i64 t.i] 37)).alloc (.cells #[.int .i64 v.c, .int .i64 v.n, .slice A4 v.ks.length cap4] 41)) 32 #[.int .i64 0, .int .i64 0, .int .i64 0, .int .i64 0, .int .i64 0, .slice none 0 0]
    rw [show ((w.alloc (.cells #[.int .i64 t.d, .int .i64 t.i] 37)).alloc (.cells #[.int .i64 v.c, .int .i64 v.n, .slice A4 v.ks.length cap4] 41)).heap.size = w.heap.size + 2 from by simp] at h
    exact h
  rw [← hW2]
  clear hW2
  have y0 : W2.cell? ⟨w.heap.size, 0, none⟩ = some (.int .i64 t.d) := (KT.out.cell 0).trans (by simp)
  have y1 : W2.cell? ⟨w.heap.size, 1, none⟩ = some (.int .i64 t.i) := (KT.out.cell 1).trans (by simp)
  have z0 : W2.cell? ⟨w.heap.size + 1, 0, none⟩ = some (.int .i64 v.c) := (KV.out.cell 0).trans (by simp)
  have z1 : W2.cell? ⟨w.heap.size + 1, 1, none⟩ = some (.int .i64 v.n) := (KV.out.cell 1).trans (by simp)
  have z2 : W2.cell? ⟨w.heap.size + 1, 2, none⟩ = some (.slice A4 v.ks.length cap4) := (KV.out.cell 2).trans (by simp)
  have klt := KT.out.lt
  have klt2 := KV.out.lt
  go_wp2_with fail
  refine (impl_ValueValid xs t v W2 _ F _ G (ArrDt.below HX.out hB0 HF.out) (HF.out.mono hB0.size) (HV.out.below hB0 HG.out) (HG.out.mono hB0.size) hz).mono ?_
  rintro e w3 ⟨rfl, hb3⟩
  have hB3 := hB0.trans (hb3.mono hB0.size)
  have KV3 := Lib.hid (KV.out.same (hb3.block _ KV.out.lt))
  have KT3 := Lib.hid (KT.out.same (hb3.block _ KT.out.lt))
  have KR3 := Lib.hid (KR.out.same (hb3.block _ KR.out.lt))
  clear y0 y1 z0 z1 z2 klt klt2
  have y0 : w3.cell? ⟨w.heap.size, 0, none⟩ = some (.int .i64 t.d) := (KT3.out.cell 0).trans (by simp)
  have y1 : w3.cell? ⟨w.heap.size, 1, none⟩ = some (.int .i64 t.i) := (KT3.out.cell 1).trans (by simp)
  have z0 : w3.cell? ⟨w.heap.size + 1, 0, none⟩ = some (.int .i64 v.c) := (KV3.out.cell 0).trans (by simp)
  have z1 : w3.cell? ⟨w.heap.size + 1, 1, none⟩ = some (.int .i64 v.n) := (KV3.out.cell 1).trans (by simp)
  have z2 : w3.cell? ⟨w.heap.size + 1, 2, none⟩ = some (.slice A4 v.ks.length cap4) := (KV3.out.cell 2).trans (by simp)
  have klt := KT3.out.lt
  have klt2 := KV3.out.lt
  clear hb3 KT KV KR
  cases e1 : valueValidB xs t v with
  | false =>
    have hf : Hid (patternOfR xs t v = zeroP) := by unfold Hid patternOfR; rw [e1]; rfl
    have HE := Lib.hid e1
    clear e1
    have rc0 := (KR3.out.cell 0).trans (show _ = some (.int .i64 0) from by simp)
    have rf0 := KR3.out.frozen 0
    have rc1 := (KR3.out.cell 1).trans (show _ = some (.int .i64 0) from by simp)
    have rf1 := KR3.out.frozen 1
    have rc2 := (KR3.out.cell 2).trans (show _ = some (.int .i64 0) from by simp)
    have rf2 := KR3.out.frozen 2
    have rc3 := (KR3.out.cell 3).trans (show _ = some (.int .i64 0) from by simp)
    have rf3 := KR3.out.frozen 3
    have rc4 := (KR3.out.cell 4).trans (show _ = some (.int .i64 0) from by simp)
    have rf4 := KR3.out.frozen 4
    have rc5 := (KR3.out.cell 5).trans (show _ = some (.slice none 0 0) from by simp)
    have rf5 := KR3.out.frozen 5
    have rlt := KR3.out.lt
    go_wp2
    clear rc0 rf0 rc1 rf1 rc2 rf2 rc3 rf3 rc4 rf4 rc5 rf5 rlt
    refine bodyPost_ret (results_cell_tmp rfl _ _ (w.heap.size + 2) 32 #[.int .i64 0, .int .i64 0, .int .i64 0, .int .i64 0, .int .i64 0, .slice none 0 0] (0, 0) _ rfl (KR3.out.six _ _ _ _ _ _) Try.underlying32 rfl rfl) rfl ?_
    exact ⟨[.int .i64 0, .int .i64 0, .int .i64 0, .int .i64 0, .int .i64 0, .slice none 0 0], [], by rw [HE.out]; rfl, below_six hB3 (by omega) _ _ _ _ _ _, by rw [hf.out]; exact (PR_iff _ _ _).2 ⟨_, rfl, Arr.nil⟩, Free.nil _, Fresh.nil _ _⟩
  | true =>
    have hf : Hid (patternOfR xs t v = patOf v) := by unfold Hid patternOfR; rw [e1]; rfl
    have HE := Lib.hid e1
    clear e1
    go_wp2_with fail
    refine (impl_patternOf v w3 _ G (HV.out.below hB3 HG.out) (HG.out.mono hB3.size) hz).mono ?_
    rintro e w4 ⟨cs4, F4, rfl, hb4, hp4, hfr4, hfs4⟩
    obtain ⟨kv4, rfl, ha4⟩ := (PR_iff _ _ _).1 hp4
    obtain ⟨A5, cap5, rfl, -, -⟩ := ha4.form
    have hB4 := hB3.trans (hb4.mono hB3.size)
    have KR4 := Lib.hid (KR3.out.same (hb4.block _ KR3.out.lt))
    have HN4 : Hid (∀ b ∈ F4, b ≠ w.heap.size + 2) := fun b hb e => by have h1 := (hfs4 b hb).1; have h2 := KR3.out.lt; omega
    have HP4 := Lib.hid hp4
    have HFR4 := Lib.hid hfr4
    have HFS4 : Hid (Fresh w w4 F4) := fun b hb => ⟨Nat.le_trans hB3.size (hfs4 b hb).1, (hfs4 b hb).2⟩
    clear hp4 hfr4 hfs4 hb4 ha4 y0 y1 z0 z1 z2 klt klt2
    generalize (patOf v).ks.length = n5 at *
    generalize (patOf v).op = c0 at *
    generalize (patOf v).ct = c1 at *
    generalize (patOf v).n = c2 at *
    generalize (patOf v).m = c3 at *
    generalize (patOf v).va = c4 at *
    have rc0 := (KR4.out.cell 0).trans (show _ = some (.int .i64 0) from by simp)
    have rf0 := KR4.out.frozen 0
    have rc1 := (KR4.out.cell 1).trans (show _ = some (.int .i64 0) from by simp)
    have rf1 := KR4.out.frozen 1
    have rc2 := (KR4.out.cell 2).trans (show _ = some (.int .i64 0) from by simp)
    have rf2 := KR4.out.frozen 2
    have rc3 := (KR4.out.cell 3).trans (show _ = some (.int .i64 0) from by simp)
    have rf3 := KR4.out.frozen 3
    have rc4 := (KR4.out.cell 4).trans (show _ = some (.int .i64 0) from by simp)
    have rf4 := KR4.out.frozen 4
    have rc5 := (KR4.out.cell 5).trans (show _ = some (.slice none 0 0) from by simp)
    have rf5 := KR4.out.frozen 5
    have rlt := KR4.out.lt
    go_wp2
    clear rc0 rf0 rc1 rf1 rc2 rf2 rc3 rf3 rc4 rf4 rc5 rf5 rlt
    refine bodyPost_ret (results_cell_tmp rfl _ _ (w.heap.size + 2) 32 #[.int .i64 c0, .int .i64 c1, .int .i64 c2, .int .i64 c3, .int .i64 c4, .slice A5 n5 cap5] (0, 0) _ rfl (KR4.out.six _ _ _ _ _ _) Try.underlying32 rfl rfl) rfl ?_
    have hkp : Kept F4 w4 _ := kept_six (w := w4) (H := w.heap.size + 2) HN4.out (.int .i64 c0) (.int .i64 c1) (.int .i64 c2) (.int .i64 c3) (.int .i64 c4) (.slice A5 n5 cap5)
    exact ⟨[.int .i64 c0, .int .i64 c1, .int .i64 c2, .int .i64 c3, .int .i64 c4, .slice A5 n5 cap5], F4, by rw [HE.out]; rfl, below_six hB4 (by omega) _ _ _ _ _ _, by rw [hf.out]; exact PR.mono _ _ _ hkp HP4.out, HFR4.out.kept hkp, fun b hb => ⟨(HFS4.out b hb).1, by rw [size_six]; exact (HFS4.out b hb).2⟩⟩
end Go.Proofs.Ytbffkgfhcmigaaa
