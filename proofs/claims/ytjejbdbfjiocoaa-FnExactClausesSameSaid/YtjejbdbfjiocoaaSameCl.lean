/-
  ClausesSame of the program: equality of clauses, by slices.EqualFunc and a closure. Conditions: none.
-/
import Derived.Test.YtjejbdbfjiocoaaCl
import Derived.Test.YtjejbdbfjiocoaaSameIP
import Derived.Laws.EntriesVeiled
namespace Go.Proofs.Ytjejbdbfjiocoaa
open Go.RowKit

def Gd.same (a b : Gd) : Bool := a.op == b.op && (a.va == b.va && a.n == b.n)
theorem Gd.same_iff (a b : Gd) : Gd.same a b = true ↔ a = b := by
  unfold Gd.same
  rw [Bool.and_eq_true, Bool.and_eq_true, beq_iff_eq, beq_iff_eq, beq_iff_eq]
  constructor
  · rintro ⟨h1, h2, h3⟩; exact Gd.ext h1 h2 h3
  · rintro rfl; exact ⟨rfl, rfl, rfl⟩
def Cl.same (a b : Cl) : Bool := Gd.same a.gd b.gd && P.same a.pat b.pat
theorem Cl.same_iff (a b : Cl) : Cl.same a b = true ↔ a = b := by
  unfold Cl.same
  rw [Bool.and_eq_true, Gd.same_iff, P.same_iff]
  constructor
  · rintro ⟨h1, h2⟩; exact Cl.ext h2 h1
  · rintro rfl; exact ⟨rfl, rfl⟩

set_option maxRecDepth 100000 in
set_option maxHeartbeats 1600000 in
theorem sameClause_closure (a b : Cl) (w : World) (cs ds : List Value) (F G : List Nat) (hv : ClR w a cs F) (hv' : ClR w b ds G) (hF : Under w.heap.size F) (hG : Under w.heap.size G) :
    Calls Try.prog 62 #[.agg cs.toArray, .agg ds.toArray] w fun e w' => e = .returned (.bool (Cl.same a b)) ∧ Below w.heap.size w w' := by
  obtain ⟨pv, rfl, ha⟩ := hv
  obtain ⟨pv', rfl, ha'⟩ := hv'
  have HX := Lib.hid ha
  have HY := Lib.hid ha'
  obtain ⟨kv, rfl, hk⟩ := (PR_iff _ _ _).1 ha
  obtain ⟨kv', rfl, hk'⟩ := (PR_iff _ _ _).1 ha'
  obtain ⟨A, cap, rfl, -, -⟩ := hk.form
  obtain ⟨A', cap', rfl, -, -⟩ := hk'.form
  clear ha ha' hk hk'
  have HF := Lib.hid hF
  have HG := Lib.hid hG
  clear hF hG
  go_enter Try.func62, Try.ntmps62
  go_wp2_with fail
  obtain ⟨W2, hW2⟩ : ∃ W2, W2 = (w.alloc (.cells #[.int .i64 a.pat.op, .int .i64 a.pat.ct, .int .i64 a.pat.n, .int .i64 a.pat.m, .int .i64 a.pat.va, .slice A a.pat.ks.length cap, .int .i64 a.gd.op, .int .i64 a.gd.va, .int .i64 a.gd.n] 79)).alloc (.cells #[.int .i64 b.pat.op, .int .i64 b.pat.ct, .int .i64 b.pat.n, .int .i64 b.pat.m, .int .i64 b.pat.va, .slice A' b.pat.ks.length cap', .int .i64 b.gd.op, .int .i64 b.gd.va, .int .i64 b.gd.n] 79) := ⟨_, rfl⟩
  have hB2 : Below w.heap.size w W2 := by rw [hW2]; exact ((Below.refl _ _).alloc (Nat.le_refl _) _).alloc (by simp) _
  have k1 : Blk W2 w.heap.size 79 #[.int .i64 a.pat.op, .int .i64 a.pat.ct, .int .i64 a.pat.n, .int .i64 a.pat.m, .int .i64 a.pat.va, .slice A a.pat.ks.length cap, .int .i64 a.gd.op, .int .i64 a.gd.va, .int .i64 a.gd.n] := by rw [hW2]; exact (Blk.new w _ _).same (Below.heap_alloc _ _ _ (by simp))
  have k2 : Blk W2 (w.heap.size + 1) 79 #[.int .i64 b.pat.op, .int .i64 b.pat.ct, .int .i64 b.pat.n, .int .i64 b.pat.m, .int .i64 b.pat.va, .slice A' b.pat.ks.length cap', .int .i64 b.gd.op, .int .i64 b.gd.va, .int .i64 b.gd.n] := by rw [hW2]; have := Blk.new (w.alloc (.cells #[.int .i64 a.pat.op, .int .i64 a.pat.ct, .int .i64 a.pat.n, .int .i64 a.pat.m, .int .i64 a.pat.va, .slice A a.pat.ks.length cap, .int .i64 a.gd.op, .int .i64 a.gd.va, .int .i64 a.gd.n] 79)) 79 #[.int .i64 b.pat.op, .int .i64 b.pat.ct, .int .i64 b.pat.n, .int .i64 b.pat.m, .int .i64 b.pat.va, .slice A' b.pat.ks.length cap', .int .i64 b.gd.op, .int .i64 b.gd.va, .int .i64 b.gd.n]; simpa using this
  rw [← hW2]
  clear hW2
  have K1 := Lib.hid k1
  have K2 := Lib.hid k2
  clear k1 k2
  refine (impl_PatternSame a.pat b.pat W2 _ _ F G (HX.out.below hB2 HF.out) (HY.out.below hB2 HG.out) (HF.out.mono hB2.size) (HG.out.mono hB2.size)).mono ?_
  rintro e w' ⟨rfl, hB'⟩
  have hB3 := hB2.trans (hB'.mono hB2.size)
  cases hp : P.same a.pat b.pat with
  | false =>
    have hf : Hid (Cl.same a b = false) := by unfold Hid Cl.same; rw [hp, Bool.and_false]
    clear hp
    go_wp2
    go_ret
    exact ⟨ret_bool hf.out.symm, hB3⟩
  | true =>
    have hc : Cl.same a b = Gd.same a.gd b.gd := by unfold Cl.same; rw [hp, Bool.and_true]
    clear hp
    unfold Gd.same at hc
    have k1 := K1.out.same (hB'.block _ K1.out.lt)
    have k2 := K2.out.same (hB'.block _ K2.out.lt)
    have x0 : w'.cell? ⟨w.heap.size, 0, none⟩ = some (.int .i64 a.pat.op) := (k1.cell 0).trans (by simp)
    have y0 : w'.cell? ⟨w.heap.size + 1, 0, none⟩ = some (.int .i64 b.pat.op) := (k2.cell 0).trans (by simp)
    have x1 : w'.cell? ⟨w.heap.size, 1, none⟩ = some (.int .i64 a.pat.ct) := (k1.cell 1).trans (by simp)
    have y1 : w'.cell? ⟨w.heap.size + 1, 1, none⟩ = some (.int .i64 b.pat.ct) := (k2.cell 1).trans (by simp)
    have x2 : w'.cell? ⟨w.heap.size, 2, none⟩ = some (.int .i64 a.pat.n) := (k1.cell 2).trans (by simp)
    have y2 : w'.cell? ⟨w.heap.size + 1, 2, none⟩ = some (.int .i64 b.pat.n) := (k2.cell 2).trans (by simp)
    have x3 : w'.cell? ⟨w.heap.size, 3, none⟩ = some (.int .i64 a.pat.m) := (k1.cell 3).trans (by simp)
    have y3 : w'.cell? ⟨w.heap.size + 1, 3, none⟩ = some (.int .i64 b.pat.m) := (k2.cell 3).trans (by simp)
    have x4 : w'.cell? ⟨w.heap.size, 4, none⟩ = some (.int .i64 a.pat.va) := (k1.cell 4).trans (by simp)
    have y4 : w'.cell? ⟨w.heap.size + 1, 4, none⟩ = some (.int .i64 b.pat.va) := (k2.cell 4).trans (by simp)
    have x5 : w'.cell? ⟨w.heap.size, 5, none⟩ = some (.slice A a.pat.ks.length cap) := (k1.cell 5).trans (by simp)
    have y5 : w'.cell? ⟨w.heap.size + 1, 5, none⟩ = some (.slice A' b.pat.ks.length cap') := (k2.cell 5).trans (by simp)
    have x6 : w'.cell? ⟨w.heap.size, 6, none⟩ = some (.int .i64 a.gd.op) := (k1.cell 6).trans (by simp)
    have y6 : w'.cell? ⟨w.heap.size + 1, 6, none⟩ = some (.int .i64 b.gd.op) := (k2.cell 6).trans (by simp)
    have x7 : w'.cell? ⟨w.heap.size, 7, none⟩ = some (.int .i64 a.gd.va) := (k1.cell 7).trans (by simp)
    have y7 : w'.cell? ⟨w.heap.size + 1, 7, none⟩ = some (.int .i64 b.gd.va) := (k2.cell 7).trans (by simp)
    have x8 : w'.cell? ⟨w.heap.size, 8, none⟩ = some (.int .i64 a.gd.n) := (k1.cell 8).trans (by simp)
    have y8 : w'.cell? ⟨w.heap.size + 1, 8, none⟩ = some (.int .i64 b.gd.n) := (k2.cell 8).trans (by simp)
    clear k1 k2
    cases e0 : (a.gd.op == b.gd.op) with
    | false =>
      have hf : Hid (Cl.same a b = false) := by rw [e0, Bool.false_and] at hc; exact hc
      clear hc
      go_wp2
      go_ret
      exact ⟨ret_bool hf.out.symm, hB3⟩
    | true =>
      rw [e0, Bool.true_and] at hc
      cases e1 : (a.gd.va == b.gd.va) with
      | false =>
        have hf : Hid (Cl.same a b = false) := by rw [e1, Bool.false_and] at hc; exact hc
        clear hc
        go_wp2
        go_ret
        exact ⟨ret_bool hf.out.symm, hB3⟩
      | true =>
        rw [e1, Bool.true_and] at hc
        cases e2 : (a.gd.n == b.gd.n) with
        | false =>
          have hf : Hid (Cl.same a b = false) := by rw [e2] at hc; exact hc
          clear hc
          go_wp2
          go_ret
          exact ⟨ret_bool hf.out.symm, hB3⟩
        | true =>
          have hf : Hid (Cl.same a b = true) := by rw [e2] at hc; exact hc
          clear hc
          go_wp2
          go_ret
          exact ⟨ret_bool hf.out.symm, hB3⟩

set_option maxRecDepth 100000 in
set_option maxHeartbeats 1600000 in
theorem EqualFunc_Cl (xs ys : List Cl) (w : World) (x y : Value) (F G : List Nat) (hx : Arr w (ClR w) xs x F) (hy : Arr w (ClR w) ys y G) (hF : Under w.heap.size F) (hG : Under w.heap.size G) :
    Calls Try.prog 61 #[x, y, .func (.func 62) #[] #[]] w fun e w' => e = .returned (.bool (sameBy Cl.same xs ys)) ∧ Below w.heap.size w w' := by
  have HX := Lib.hid hx
  have HY := Lib.hid hy
  obtain ⟨A, cap, rfl, hc1, hc2⟩ := hx.form
  obtain ⟨A', cap', rfl, hc3, hc4⟩ := hy.form
  clear hx hy
  have HF := Lib.hid hF
  have HG := Lib.hid hG
  clear hF hG
  by_cases hl : xs.length = ys.length
  · have tl : ((xs.length : Int) != (ys.length : Int)) = false := by rw [hl]; simp
    have hle1 : xs.length ≤ ys.length := by omega
    have hle2 : ys.length ≤ xs.length := by omega
    clear hl
    go_enter Try.func61, Try.ntmps61
    go_wp2
    go_loopw [17] (fun i wr => ∃ k : Nat, k ≤ xs.length ∧ i = .int .i64 k ∧ Hid (sameBy Cl.same xs ys = sameBy Cl.same (xs.drop k) (ys.drop k)) ∧ Below w.heap.size w wr) (fun i _ => xs.length - (intOf i).toNat)
    case atStart => exact ⟨0, Nat.zero_le _, rfl, rfl, Below.refl _ _⟩
    case round =>
      obtain ⟨k, hk, rfl, HT, hB⟩ := hrel
      by_cases hlt : k < xs.length
      · have hlt' : k < ys.length := by omega
        have hd := sameBy_drop (f := Cl.same) xs ys k hlt hlt'
        have HD := Lib.hid hd
        clear hd
        obtain ⟨b, off, cs, G_, rfl, hb, hcs, hvc, hG_⟩ := HX.out.get ClR_len hlt
        have hbl := HF.out b hb
        have hGFc := HF.out.sub hG_
        have hwc := hvc.below hB hGFc
        have hcsc := hcs.same (hB.block b hbl)
        obtain ⟨A1, cap1, rfl⟩ := ClR_form hvc
        have c0 := hcsc 0 _ rfl
        have c1 := hcsc 1 _ rfl
        have c2 := hcsc 2 _ rfl
        have c3 := hcsc 3 _ rfl
        have c4 := hcsc 4 _ rfl
        have c5 := hcsc 5 _ rfl
        have c6 := hcsc 6 _ rfl
        have c7 := hcsc 7 _ rfl
        have c8 := hcsc 8 _ rfl
        simp only [Nat.add_zero] at c0
        clear hcs hcsc hvc hG_
        have HV := Lib.hid hwc
        clear hwc
        have HG_ := Lib.hid hGFc
        clear hGFc
        obtain ⟨b2, off2, ds, G2, rfl, hb2, hds, hvd, hG2⟩ := HY.out.get ClR_len hlt'
        have hbl2 := HG.out b2 hb2
        have hGFd := HG.out.sub hG2
        have hwd := hvd.below hB hGFd
        have hcsd := hds.same (hB.block b2 hbl2)
        obtain ⟨A2, cap2, rfl⟩ := ClR_form hvd
        have d0 := hcsd 0 _ rfl
        have d1 := hcsd 1 _ rfl
        have d2 := hcsd 2 _ rfl
        have d3 := hcsd 3 _ rfl
        have d4 := hcsd 4 _ rfl
        have d5 := hcsd 5 _ rfl
        have d6 := hcsd 6 _ rfl
        have d7 := hcsd 7 _ rfl
        have d8 := hcsd 8 _ rfl
        simp only [Nat.add_zero] at d0
        clear hds hcsd hvd hG2
        have HV2 := Lib.hid hwd
        clear hwd
        have HG2 := Lib.hid hGFd
        clear hGFd
        have hblw := Nat.lt_of_lt_of_le hbl hB.size
        have hblw2 := Nat.lt_of_lt_of_le hbl2 hB.size
        go_wp2_with fail
        obtain ⟨W2, hW2⟩ : ∃ W2, W2 = (wr.alloc (.cells #[.int .i64 xs[k].pat.op, .int .i64 xs[k].pat.ct, .int .i64 xs[k].pat.n, .int .i64 xs[k].pat.m, .int .i64 xs[k].pat.va, .slice A1 xs[k].pat.ks.length cap1, .int .i64 xs[k].gd.op, .int .i64 xs[k].gd.va, .int .i64 xs[k].gd.n] 79)).alloc (.cells #[.int .i64 ys[k].pat.op, .int .i64 ys[k].pat.ct, .int .i64 ys[k].pat.n, .int .i64 ys[k].pat.m, .int .i64 ys[k].pat.va, .slice A2 ys[k].pat.ks.length cap2, .int .i64 ys[k].gd.op, .int .i64 ys[k].gd.va, .int .i64 ys[k].gd.n] 79) := ⟨_, rfl⟩
        have hb2 : Below wr.heap.size wr W2 := by rw [hW2]; exact ((Below.refl _ _).alloc (Nat.le_refl _) _).alloc (by simp) _
        rw [← hW2]
        clear hW2
        have hB2 := hB.trans (hb2.mono hB.size)
        refine (sameClause_closure xs[k] ys[k] W2 _ _ G_ G2 (HV.out.below hb2 (HG_.out.mono hB.size)) (HV2.out.below hb2 (HG2.out.mono hB.size)) (HG_.out.mono hB2.size) (HG2.out.mono hB2.size)).mono ?_
        rintro e w' ⟨rfl, hB'⟩
        have hB3 := hB2.trans (hB'.mono hB2.size)
        cases hs : Cl.same xs[k] ys[k] with
        | true =>
          have hT2 : Hid (sameBy Cl.same xs ys = sameBy Cl.same (xs.drop (k + 1)) (ys.drop (k + 1))) := by have hd := HD.out; rw [hs, Bool.true_and] at hd; exact HT.out.trans hd
          clear hs
          go_wp2
          go_roundw
          case rel => exact ⟨k + 1, by omega, by go_num, hT2, hB3⟩
          case measure => simp [intOf]; omega
        | false =>
          have hf : Hid (sameBy Cl.same xs ys = false) := by have hd := HD.out; rw [hs, Bool.false_and] at hd; exact HT.out.trans hd
          clear hs
          go_wp2
          go_ret
          exact ⟨ret_bool hf.out.symm, hB3⟩
      · have hT := HT.out
        rw [List.drop_of_length_le (by omega), List.drop_of_length_le (by omega)] at hT
        have hf : Hid (sameBy Cl.same xs ys = true) := hT
        clear hT
        go_wp2
        go_ret
        exact ⟨ret_bool hf.out.symm, hB⟩
  · have tl : ((xs.length : Int) != (ys.length : Int)) = true := by rw [bne_iff_ne]; omega
    have hf := Lib.hid (sameBy_len_false (f := Cl.same) hl)
    clear hl
    go_enter Try.func61, Try.ntmps61
    go_wp2
    go_ret
    exact ⟨ret_bool hf.out.symm, Below.refl _ _⟩


set_option maxRecDepth 100000 in
set_option maxHeartbeats 1600000 in
theorem impl_ClausesSame (xs ys : List Cl) (w : World) (x y : Value) (F G : List Nat) (hx : Arr w (ClR w) xs x F) (hy : Arr w (ClR w) ys y G) (hF : Under w.heap.size F) (hG : Under w.heap.size G) :
    Calls Try.prog 15 #[x, y] w fun e w' => e = .returned (.bool (sameBy Cl.same xs ys)) ∧ Below w.heap.size w w' := by
  have HX := Lib.hid hx
  have HY := Lib.hid hy
  obtain ⟨A, cap, rfl, hc1, hc2⟩ := hx.form
  obtain ⟨A', cap', rfl, hc3, hc4⟩ := hy.form
  clear hx hy
  have HF := Lib.hid hF
  have HG := Lib.hid hG
  clear hF hG
  go_enter Try.func15, Try.ntmps15
  go_wp2_with fail
  refine (EqualFunc_Cl xs ys w _ _ F G HX.out HY.out HF.out HG.out).mono ?_
  rintro e w' ⟨rfl, hB'⟩
  generalize hbb : sameBy Cl.same xs ys = bb
  have HBB := Lib.hid hbb
  clear hbb
  go_wp2
  go_ret
  exact ⟨ret_bool HBB.out.symm, hB'⟩
end Go.Proofs.Ytjejbdbfjiocoaa
