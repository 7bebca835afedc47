/-
  ClausesSame of the reference: equality of clauses, by a loop. Conditions: none.
-/
import Derived.Test.YtjejbdbfjiocoaaSameCl
import Derived.Deep.RegionHeld3
import Derived.BigQuiet
import Derived.Deep.QuietTactic
namespace Go.Proofs.Ytjejbdbfjiocoaa
open Go.RowKit

theorem ClR_pat {w : World} {x : Cl} {A : Option Addr} {cap : Nat} {F : List Nat} (h : ClR w x [.int .i64 x.pat.op, .int .i64 x.pat.ct, .int .i64 x.pat.n, .int .i64 x.pat.m, .int .i64 x.pat.va, .slice A x.pat.ks.length cap, .int .i64 x.gd.op, .int .i64 x.gd.va, .int .i64 x.gd.n] F) : PR w x.pat [.int .i64 x.pat.op, .int .i64 x.pat.ct, .int .i64 x.pat.n, .int .i64 x.pat.m, .int .i64 x.pat.va, .slice A x.pat.ks.length cap] F := by
  obtain ⟨ds, e, ha⟩ := h
  have ha0 := ha
  obtain ⟨kv, rfl, ha2⟩ := (PR_iff _ _ _).1 ha
  obtain ⟨A', cap', rfl, -, -⟩ := ha2.form
  simp at e
  obtain ⟨rfl, rfl⟩ := e
  exact ha0
theorem PR.drewNd {w : World} {v : P} {cs : List Value} {F : List Nat} (h : PR w v cs F) (n : Nat) : PR (w.drewN n).drew v cs F := PR.mono (w := w) v cs F (fun _ _ => rfl) h
theorem Under.drewNd {w : World} {F : List Nat} (h : Under w.heap.size F) (n : Nat) : Under (w.drewN n).drew.heap.size F := h

set_option maxRecDepth 100000 in
set_option maxHeartbeats 3200000 in
theorem spec_ClausesSame (xs ys : List Cl) (w : World) (x y : Value) (F G : List Nat) (hx : Arr w (ClR w) xs x F) (hy : Arr w (ClR w) ys y G) (hF : Under w.heap.size F) (hG : Under w.heap.size G) :
    Calls Try.prog 13 #[x, y] w fun e w' => e = .returned (.bool (sameBy Cl.same xs ys)) ∧ Below w.heap.size w w' := by
  have HX := Lib.hid hx
  have HY := Lib.hid hy
  obtain ⟨A, cap, rfl, hc1, hc2⟩ := hx.form
  obtain ⟨A', cap', rfl, hc3, hc4⟩ := hy.form
  clear hx hy
  have HF := Lib.hid hF
  have HG := Lib.hid hG
  clear hF hG
  by_cases hl : xs.length = ys.length
  · have tl : ((xs.length : Int) != (ys.length : Int)) = false := by rw [hl]; simp
    have hle1 : xs.length ≤ ys.length := by omega
    have hle2 : ys.length ≤ xs.length := by omega
    clear hl
    go_enter Try.func13, Try.ntmps13
    go_wp2
    go_loopw [5] (fun i wr => ∃ k : Nat, k ≤ xs.length ∧ i = .int .i64 k ∧ Hid (sameBy Cl.same xs ys = sameBy Cl.same (xs.drop k) (ys.drop k)) ∧ Below w.heap.size w wr) (fun i _ => xs.length - (intOf i).toNat)
    case atStart => exact ⟨0, Nat.zero_le _, rfl, rfl, Below.refl _ _⟩
    case round =>
      obtain ⟨k, hk, rfl, HT, hB⟩ := hrel
      by_cases hlt : k < xs.length
      · have hlt' : k < ys.length := by omega
        have hi0 : (0 : Int) ≤ (k : Int) := by omega
        have hi1 : (k : Int) < (xs.length : Int) := by omega
        have hi2 : (k : Int) < (ys.length : Int) := by omega
        have hd := sameBy_drop (f := Cl.same) xs ys k hlt hlt'
        have HD := Lib.hid hd
        clear hd
        obtain ⟨b, off, cs, G1, rfl, hb, hcs, hvc, hG1⟩ := HX.out.get ClR_len hlt
        have hbl := HF.out b hb
        have hGFc := HF.out.sub hG1
        have hwc := hvc.below hB hGFc
        have hcsc := hcs.same (hB.block b hbl)
        obtain ⟨A1, cap1, rfl⟩ := ClR_form hvc
        have c0 := hcsc 0 _ rfl
        have c1 := hcsc 1 _ rfl
        have c2 := hcsc 2 _ rfl
        have c3 := hcsc 3 _ rfl
        have c4 := hcsc 4 _ rfl
        have c5 := hcsc 5 _ rfl
        have c6 := hcsc 6 _ rfl
        have c7 := hcsc 7 _ rfl
        have c8 := hcsc 8 _ rfl
        simp only [Nat.add_zero] at c0
        clear hcs hcsc hvc hG1
        have HV := Lib.hid hwc
        clear hwc
        have HG1 := Lib.hid hGFc
        clear hGFc
        obtain ⟨b2, off2, ds, G2, rfl, hb2, hds, hvd, hG2⟩ := HY.out.get ClR_len hlt'
        have hbl2 := HG.out b2 hb2
        have hGFd := HG.out.sub hG2
        have hwd := hvd.below hB hGFd
        have hcsd := hds.same (hB.block b2 hbl2)
        obtain ⟨A2, cap2, rfl⟩ := ClR_form hvd
        have d0 := hcsd 0 _ rfl
        have d1 := hcsd 1 _ rfl
        have d2 := hcsd 2 _ rfl
        have d3 := hcsd 3 _ rfl
        have d4 := hcsd 4 _ rfl
        have d5 := hcsd 5 _ rfl
        have d6 := hcsd 6 _ rfl
        have d7 := hcsd 7 _ rfl
        have d8 := hcsd 8 _ rfl
        simp only [Nat.add_zero] at d0
        clear hds hcsd hvd hG2
        have HV2 := Lib.hid hwd
        clear hwd
        have HG2 := Lib.hid hGFd
        clear hGFd
        have HBq := Lib.hid (fun n => below_drewN hB n)
        cases hg : Gd.same xs[k].gd ys[k].gd with
        | false =>
          have hf : Hid (sameBy Cl.same xs ys = false) := by have hd := HD.out; unfold Cl.same at hd; rw [hg, Bool.false_and, Bool.false_and] at hd; exact HT.out.trans hd
          unfold Gd.same at hg
          cases e0 : (xs[k].gd.op == ys[k].gd.op) with
          | false =>
            clear hg
            go_wp2_with fail
            go_quiet (fail)
            go_wp2
            go_ret
            exact ⟨ret_bool hf.out.symm, HBq.out _⟩
          | true =>
            rw [e0, Bool.true_and] at hg
            cases e1 : (xs[k].gd.va == ys[k].gd.va) with
            | false =>
              clear hg
              go_wp2_with fail
              go_quiet (fail)
              go_wp2
              go_ret
              exact ⟨ret_bool hf.out.symm, HBq.out _⟩
            | true =>
              rw [e1, Bool.true_and] at hg
              go_wp2_with fail
              go_quiet (fail)
              go_wp2
              go_ret
              exact ⟨ret_bool hf.out.symm, HBq.out _⟩
        | true =>
          have e0 : (xs[k].gd.op == ys[k].gd.op) = true := by rw [(Gd.same_iff _ _).1 hg]; simp
          have e1 : (xs[k].gd.va == ys[k].gd.va) = true := by rw [(Gd.same_iff _ _).1 hg]; simp
          have e2 : (xs[k].gd.n == ys[k].gd.n) = true := by rw [(Gd.same_iff _ _).1 hg]; simp
          have hs : Cl.same xs[k] ys[k] = P.same xs[k].pat ys[k].pat := by unfold Cl.same; rw [hg, Bool.true_and]
          have HSm := Lib.hid hs
          clear hs hg
          go_wp2_with fail
          cases hs : P.same xs[k].pat ys[k].pat with
          | true =>
            have hT4 : Hid (sameBy Cl.same xs ys = sameBy Cl.same (xs.drop (k + 1)) (ys.drop (k + 1))) := by have hd := HD.out; rw [HSm.out, hs, Bool.true_and] at hd; exact HT.out.trans hd
            have HS := Lib.hid hs
            clear hs
            have hkeep : ∀ U U' : World, (U.cell? ⟨b, off + k * 9, none⟩ = some (.int .i64 xs[k].pat.op) ∧ U.cell? ⟨b, off + k * 9 + 1, none⟩ = some (.int .i64 xs[k].pat.ct) ∧ U.cell? ⟨b, off + k * 9 + 2, none⟩ = some (.int .i64 xs[k].pat.n) ∧ U.cell? ⟨b, off + k * 9 + 3, none⟩ = some (.int .i64 xs[k].pat.m) ∧ U.cell? ⟨b, off + k * 9 + 4, none⟩ = some (.int .i64 xs[k].pat.va) ∧ U.cell? ⟨b, off + k * 9 + 5, none⟩ = some (.slice A1 xs[k].pat.ks.length cap1) ∧ U.cell? ⟨b, off + k * 9 + 6, none⟩ = some (.int .i64 xs[k].gd.op) ∧ U.cell? ⟨b, off + k * 9 + 7, none⟩ = some (.int .i64 xs[k].gd.va) ∧ U.cell? ⟨b, off + k * 9 + 8, none⟩ = some (.int .i64 xs[k].gd.n) ∧ U.cell? ⟨b2, off2 + k * 9, none⟩ = some (.int .i64 ys[k].pat.op) ∧ U.cell? ⟨b2, off2 + k * 9 + 1, none⟩ = some (.int .i64 ys[k].pat.ct) ∧ U.cell? ⟨b2, off2 + k * 9 + 2, none⟩ = some (.int .i64 ys[k].pat.n) ∧ U.cell? ⟨b2, off2 + k * 9 + 3, none⟩ = some (.int .i64 ys[k].pat.m) ∧ U.cell? ⟨b2, off2 + k * 9 + 4, none⟩ = some (.int .i64 ys[k].pat.va) ∧ U.cell? ⟨b2, off2 + k * 9 + 5, none⟩ = some (.slice A2 ys[k].pat.ks.length cap2) ∧ U.cell? ⟨b2, off2 + k * 9 + 6, none⟩ = some (.int .i64 ys[k].gd.op) ∧ U.cell? ⟨b2, off2 + k * 9 + 7, none⟩ = some (.int .i64 ys[k].gd.va) ∧ U.cell? ⟨b2, off2 + k * 9 + 8, none⟩ = some (.int .i64 ys[k].gd.n)) → Below U.heap.size U U' → wr.heap.size ≤ U.heap.size → (U'.cell? ⟨b, off + k * 9, none⟩ = some (.int .i64 xs[k].pat.op) ∧ U'.cell? ⟨b, off + k * 9 + 1, none⟩ = some (.int .i64 xs[k].pat.ct) ∧ U'.cell? ⟨b, off + k * 9 + 2, none⟩ = some (.int .i64 xs[k].pat.n) ∧ U'.cell? ⟨b, off + k * 9 + 3, none⟩ = some (.int .i64 xs[k].pat.m) ∧ U'.cell? ⟨b, off + k * 9 + 4, none⟩ = some (.int .i64 xs[k].pat.va) ∧ U'.cell? ⟨b, off + k * 9 + 5, none⟩ = some (.slice A1 xs[k].pat.ks.length cap1) ∧ U'.cell? ⟨b, off + k * 9 + 6, none⟩ = some (.int .i64 xs[k].gd.op) ∧ U'.cell? ⟨b, off + k * 9 + 7, none⟩ = some (.int .i64 xs[k].gd.va) ∧ U'.cell? ⟨b, off + k * 9 + 8, none⟩ = some (.int .i64 xs[k].gd.n) ∧ U'.cell? ⟨b2, off2 + k * 9, none⟩ = some (.int .i64 ys[k].pat.op) ∧ U'.cell? ⟨b2, off2 + k * 9 + 1, none⟩ = some (.int .i64 ys[k].pat.ct) ∧ U'.cell? ⟨b2, off2 + k * 9 + 2, none⟩ = some (.int .i64 ys[k].pat.n) ∧ U'.cell? ⟨b2, off2 + k * 9 + 3, none⟩ = some (.int .i64 ys[k].pat.m) ∧ U'.cell? ⟨b2, off2 + k * 9 + 4, none⟩ = some (.int .i64 ys[k].pat.va) ∧ U'.cell? ⟨b2, off2 + k * 9 + 5, none⟩ = some (.slice A2 ys[k].pat.ks.length cap2) ∧ U'.cell? ⟨b2, off2 + k * 9 + 6, none⟩ = some (.int .i64 ys[k].gd.op) ∧ U'.cell? ⟨b2, off2 + k * 9 + 7, none⟩ = some (.int .i64 ys[k].gd.va) ∧ U'.cell? ⟨b2, off2 + k * 9 + 8, none⟩ = some (.int .i64 ys[k].gd.n)) := fun U U' h hb hU => ⟨(hb.cell (Nat.lt_of_lt_of_le (Nat.lt_of_lt_of_le hbl hB.size) hU)).trans h.1, (hb.cell (Nat.lt_of_lt_of_le (Nat.lt_of_lt_of_le hbl hB.size) hU)).trans h.2.1, (hb.cell (Nat.lt_of_lt_of_le (Nat.lt_of_lt_of_le hbl hB.size) hU)).trans h.2.2.1, (hb.cell (Nat.lt_of_lt_of_le (Nat.lt_of_lt_of_le hbl hB.size) hU)).trans h.2.2.2.1, (hb.cell (Nat.lt_of_lt_of_le (Nat.lt_of_lt_of_le hbl hB.size) hU)).trans h.2.2.2.2.1, (hb.cell (Nat.lt_of_lt_of_le (Nat.lt_of_lt_of_le hbl hB.size) hU)).trans h.2.2.2.2.2.1, (hb.cell (Nat.lt_of_lt_of_le (Nat.lt_of_lt_of_le hbl hB.size) hU)).trans h.2.2.2.2.2.2.1, (hb.cell (Nat.lt_of_lt_of_le (Nat.lt_of_lt_of_le hbl hB.size) hU)).trans h.2.2.2.2.2.2.2.1, (hb.cell (Nat.lt_of_lt_of_le (Nat.lt_of_lt_of_le hbl hB.size) hU)).trans h.2.2.2.2.2.2.2.2.1, (hb.cell (Nat.lt_of_lt_of_le (Nat.lt_of_lt_of_le hbl2 hB.size) hU)).trans h.2.2.2.2.2.2.2.2.2.1, (hb.cell (Nat.lt_of_lt_of_le (Nat.lt_of_lt_of_le hbl2 hB.size) hU)).trans h.2.2.2.2.2.2.2.2.2.2.1, (hb.cell (Nat.lt_of_lt_of_le (Nat.lt_of_lt_of_le hbl2 hB.size) hU)).trans h.2.2.2.2.2.2.2.2.2.2.2.1, (hb.cell (Nat.lt_of_lt_of_le (Nat.lt_of_lt_of_le hbl2 hB.size) hU)).trans h.2.2.2.2.2.2.2.2.2.2.2.2.1, (hb.cell (Nat.lt_of_lt_of_le (Nat.lt_of_lt_of_le hbl2 hB.size) hU)).trans h.2.2.2.2.2.2.2.2.2.2.2.2.2.1, (hb.cell (Nat.lt_of_lt_of_le (Nat.lt_of_lt_of_le hbl2 hB.size) hU)).trans h.2.2.2.2.2.2.2.2.2.2.2.2.2.2.1, (hb.cell (Nat.lt_of_lt_of_le (Nat.lt_of_lt_of_le hbl2 hB.size) hU)).trans h.2.2.2.2.2.2.2.2.2.2.2.2.2.2.2.1, (hb.cell (Nat.lt_of_lt_of_le (Nat.lt_of_lt_of_le hbl2 hB.size) hU)).trans h.2.2.2.2.2.2.2.2.2.2.2.2.2.2.2.2.1, (hb.cell (Nat.lt_of_lt_of_le (Nat.lt_of_lt_of_le hbl2 hB.size) hU)).trans h.2.2.2.2.2.2.2.2.2.2.2.2.2.2.2.2.2⟩
            have HKeep := Lib.hid hkeep
            clear hkeep
            go_region_held3 (fun w' => w'.cell? ⟨b, off + k * 9, none⟩ = some (.int .i64 xs[k].pat.op) ∧ w'.cell? ⟨b, off + k * 9 + 1, none⟩ = some (.int .i64 xs[k].pat.ct) ∧ w'.cell? ⟨b, off + k * 9 + 2, none⟩ = some (.int .i64 xs[k].pat.n) ∧ w'.cell? ⟨b, off + k * 9 + 3, none⟩ = some (.int .i64 xs[k].pat.m) ∧ w'.cell? ⟨b, off + k * 9 + 4, none⟩ = some (.int .i64 xs[k].pat.va) ∧ w'.cell? ⟨b, off + k * 9 + 5, none⟩ = some (.slice A1 xs[k].pat.ks.length cap1) ∧ w'.cell? ⟨b, off + k * 9 + 6, none⟩ = some (.int .i64 xs[k].gd.op) ∧ w'.cell? ⟨b, off + k * 9 + 7, none⟩ = some (.int .i64 xs[k].gd.va) ∧ w'.cell? ⟨b, off + k * 9 + 8, none⟩ = some (.int .i64 xs[k].gd.n) ∧ w'.cell? ⟨b2, off2 + k * 9, none⟩ = some (.int .i64 ys[k].pat.op) ∧ w'.cell? ⟨b2, off2 + k * 9 + 1, none⟩ = some (.int .i64 ys[k].pat.ct) ∧ w'.cell? ⟨b2, off2 + k * 9 + 2, none⟩ = some (.int .i64 ys[k].pat.n) ∧ w'.cell? ⟨b2, off2 + k * 9 + 3, none⟩ = some (.int .i64 ys[k].pat.m) ∧ w'.cell? ⟨b2, off2 + k * 9 + 4, none⟩ = some (.int .i64 ys[k].pat.va) ∧ w'.cell? ⟨b2, off2 + k * 9 + 5, none⟩ = some (.slice A2 ys[k].pat.ks.length cap2) ∧ w'.cell? ⟨b2, off2 + k * 9 + 6, none⟩ = some (.int .i64 ys[k].gd.op) ∧ w'.cell? ⟨b2, off2 + k * 9 + 7, none⟩ = some (.int .i64 ys[k].gd.va) ∧ w'.cell? ⟨b2, off2 + k * 9 + 8, none⟩ = some (.int .i64 ys[k].gd.n)) (first | assumption | (exact ⟨c0, c1, c2, c3, c4, c5, c6, c7, c8, d0, d1, d2, d3, d4, d5, d6, d7, d8⟩) | (exact HKeep.out wr.drew w' ⟨c0, c1, c2, c3, c4, c5, c6, c7, c8, d0, d1, d2, d3, d4, d5, d6, d7, d8⟩ hB' (Nat.le_refl _))) (first | (go_at_call 60; ((with_reducible refine (spec_PatternSame xs[k].pat ys[k].pat _ _ _ G1 G2 (ClR_pat HV.out).drew (ClR_pat HV2.out).drew (Under.drew (HG1.out.mono hB.size)) (Under.drew (HG2.out.mono hB.size))).mono ?_); rintro e w' ⟨rfl, hB'⟩; rw [HS.out])))
            have hB3 := hB.drew.trans (hB'.mono hB.size)
            go_wp2
            go_roundw
            case rel => exact ⟨k + 1, by omega, by go_num, hT4, hB3⟩
            case measure => simp [intOf]; omega
          | false =>
            have hf : Hid (sameBy Cl.same xs ys = false) := by have hd := HD.out; rw [HSm.out, hs, Bool.false_and] at hd; exact HT.out.trans hd
            have HS := Lib.hid hs
            clear hs
            have hkeep : ∀ U U' : World, (U.cell? ⟨b, off + k * 9, none⟩ = some (.int .i64 xs[k].pat.op) ∧ U.cell? ⟨b, off + k * 9 + 1, none⟩ = some (.int .i64 xs[k].pat.ct) ∧ U.cell? ⟨b, off + k * 9 + 2, none⟩ = some (.int .i64 xs[k].pat.n) ∧ U.cell? ⟨b, off + k * 9 + 3, none⟩ = some (.int .i64 xs[k].pat.m) ∧ U.cell? ⟨b, off + k * 9 + 4, none⟩ = some (.int .i64 xs[k].pat.va) ∧ U.cell? ⟨b, off + k * 9 + 5, none⟩ = some (.slice A1 xs[k].pat.ks.length cap1) ∧ U.cell? ⟨b, off + k * 9 + 6, none⟩ = some (.int .i64 xs[k].gd.op) ∧ U.cell? ⟨b, off + k * 9 + 7, none⟩ = some (.int .i64 xs[k].gd.va) ∧ U.cell? ⟨b, off + k * 9 + 8, none⟩ = some (.int .i64 xs[k].gd.n) ∧ U.cell? ⟨b2, off2 + k * 9, none⟩ = some (.int .i64 ys[k].pat.op) ∧ U.cell? ⟨b2, off2 + k * 9 + 1, none⟩ = some (.int .i64 ys[k].pat.ct) ∧ U.cell? ⟨b2, off2 + k * 9 + 2, none⟩ = some (.int .i64 ys[k].pat.n) ∧ U.cell? ⟨b2, off2 + k * 9 + 3, none⟩ = some (.int .i64 ys[k].pat.m) ∧ U.cell? ⟨b2, off2 + k * 9 + 4, none⟩ = some (.int .i64 ys[k].pat.va) ∧ U.cell? ⟨b2, off2 + k * 9 + 5, none⟩ = some (.slice A2 ys[k].pat.ks.length cap2) ∧ U.cell? ⟨b2, off2 + k * 9 + 6, none⟩ = some (.int .i64 ys[k].gd.op) ∧ U.cell? ⟨b2, off2 + k * 9 + 7, none⟩ = some (.int .i64 ys[k].gd.va) ∧ U.cell? ⟨b2, off2 + k * 9 + 8, none⟩ = some (.int .i64 ys[k].gd.n)) → Below U.heap.size U U' → wr.heap.size ≤ U.heap.size → (U'.cell? ⟨b, off + k * 9, none⟩ = some (.int .i64 xs[k].pat.op) ∧ U'.cell? ⟨b, off + k * 9 + 1, none⟩ = some (.int .i64 xs[k].pat.ct) ∧ U'.cell? ⟨b, off + k * 9 + 2, none⟩ = some (.int .i64 xs[k].pat.n) ∧ U'.cell? ⟨b, off + k * 9 + 3, none⟩ = some (.int .i64 xs[k].pat.m) ∧ U'.cell? ⟨b, off + k * 9 + 4, none⟩ = some (.int .i64 xs[k].pat.va) ∧ U'.cell? ⟨b, off + k * 9 + 5, none⟩ = some (.slice A1 xs[k].pat.ks.length cap1) ∧ U'.cell? ⟨b, off + k * 9 + 6, none⟩ = some (.int .i64 xs[k].gd.op) ∧ U'.cell? ⟨b, off + k * 9 + 7, none⟩ = some (.int .i64 xs[k].gd.va) ∧ U'.cell? ⟨b, off + k * 9 + 8, none⟩ = some (.int .i64 xs[k].gd.n) ∧ U'.cell? ⟨b2, off2 + k * 9, none⟩ = some (.int .i64 ys[k].pat.op) ∧ U'.cell? ⟨b2, off2 + k * 9 + 1, none⟩ = some (.int .i64 ys[k].pat.ct) ∧ U'.cell? ⟨b2, off2 + k * 9 + 2, none⟩ = some (.int .i64 ys[k].pat.n) ∧ U'.cell? ⟨b2, off2 + k * 9 + 3, none⟩ = some (.int .i64 ys[k].pat.m) ∧ U'.cell? ⟨b2, off2 + k * 9 + 4, none⟩ = some (.int .i64 ys[k].pat.va) ∧ U'.cell? ⟨b2, off2 + k * 9 + 5, none⟩ = some (.slice A2 ys[k].pat.ks.length cap2) ∧ U'.cell? ⟨b2, off2 + k * 9 + 6, none⟩ = some (.int .i64 ys[k].gd.op) ∧ U'.cell? ⟨b2, off2 + k * 9 + 7, none⟩ = some (.int .i64 ys[k].gd.va) ∧ U'.cell? ⟨b2, off2 + k * 9 + 8, none⟩ = some (.int .i64 ys[k].gd.n)) := fun U U' h hb hU => ⟨(hb.cell (Nat.lt_of_lt_of_le (Nat.lt_of_lt_of_le hbl hB.size) hU)).trans h.1, (hb.cell (Nat.lt_of_lt_of_le (Nat.lt_of_lt_of_le hbl hB.size) hU)).trans h.2.1, (hb.cell (Nat.lt_of_lt_of_le (Nat.lt_of_lt_of_le hbl hB.size) hU)).trans h.2.2.1, (hb.cell (Nat.lt_of_lt_of_le (Nat.lt_of_lt_of_le hbl hB.size) hU)).trans h.2.2.2.1, (hb.cell (Nat.lt_of_lt_of_le (Nat.lt_of_lt_of_le hbl hB.size) hU)).trans h.2.2.2.2.1, (hb.cell (Nat.lt_of_lt_of_le (Nat.lt_of_lt_of_le hbl hB.size) hU)).trans h.2.2.2.2.2.1, (hb.cell (Nat.lt_of_lt_of_le (Nat.lt_of_lt_of_le hbl hB.size) hU)).trans h.2.2.2.2.2.2.1, (hb.cell (Nat.lt_of_lt_of_le (Nat.lt_of_lt_of_le hbl hB.size) hU)).trans h.2.2.2.2.2.2.2.1, (hb.cell (Nat.lt_of_lt_of_le (Nat.lt_of_lt_of_le hbl hB.size) hU)).trans h.2.2.2.2.2.2.2.2.1, (hb.cell (Nat.lt_of_lt_of_le (Nat.lt_of_lt_of_le hbl2 hB.size) hU)).trans h.2.2.2.2.2.2.2.2.2.1, (hb.cell (Nat.lt_of_lt_of_le (Nat.lt_of_lt_of_le hbl2 hB.size) hU)).trans h.2.2.2.2.2.2.2.2.2.2.1, (hb.cell (Nat.lt_of_lt_of_le (Nat.lt_of_lt_of_le hbl2 hB.size) hU)).trans h.2.2.2.2.2.2.2.2.2.2.2.1, (hb.cell (Nat.lt_of_lt_of_le (Nat.lt_of_lt_of_le hbl2 hB.size) hU)).trans h.2.2.2.2.2.2.2.2.2.2.2.2.1, (hb.cell (Nat.lt_of_lt_of_le (Nat.lt_of_lt_of_le hbl2 hB.size) hU)).trans h.2.2.2.2.2.2.2.2.2.2.2.2.2.1, (hb.cell (Nat.lt_of_lt_of_le (Nat.lt_of_lt_of_le hbl2 hB.size) hU)).trans h.2.2.2.2.2.2.2.2.2.2.2.2.2.2.1, (hb.cell (Nat.lt_of_lt_of_le (Nat.lt_of_lt_of_le hbl2 hB.size) hU)).trans h.2.2.2.2.2.2.2.2.2.2.2.2.2.2.2.1, (hb.cell (Nat.lt_of_lt_of_le (Nat.lt_of_lt_of_le hbl2 hB.size) hU)).trans h.2.2.2.2.2.2.2.2.2.2.2.2.2.2.2.2.1, (hb.cell (Nat.lt_of_lt_of_le (Nat.lt_of_lt_of_le hbl2 hB.size) hU)).trans h.2.2.2.2.2.2.2.2.2.2.2.2.2.2.2.2.2⟩
            have HKeep := Lib.hid hkeep
            clear hkeep
            go_region_held3 (fun w' => w'.cell? ⟨b, off + k * 9, none⟩ = some (.int .i64 xs[k].pat.op) ∧ w'.cell? ⟨b, off + k * 9 + 1, none⟩ = some (.int .i64 xs[k].pat.ct) ∧ w'.cell? ⟨b, off + k * 9 + 2, none⟩ = some (.int .i64 xs[k].pat.n) ∧ w'.cell? ⟨b, off + k * 9 + 3, none⟩ = some (.int .i64 xs[k].pat.m) ∧ w'.cell? ⟨b, off + k * 9 + 4, none⟩ = some (.int .i64 xs[k].pat.va) ∧ w'.cell? ⟨b, off + k * 9 + 5, none⟩ = some (.slice A1 xs[k].pat.ks.length cap1) ∧ w'.cell? ⟨b, off + k * 9 + 6, none⟩ = some (.int .i64 xs[k].gd.op) ∧ w'.cell? ⟨b, off + k * 9 + 7, none⟩ = some (.int .i64 xs[k].gd.va) ∧ w'.cell? ⟨b, off + k * 9 + 8, none⟩ = some (.int .i64 xs[k].gd.n) ∧ w'.cell? ⟨b2, off2 + k * 9, none⟩ = some (.int .i64 ys[k].pat.op) ∧ w'.cell? ⟨b2, off2 + k * 9 + 1, none⟩ = some (.int .i64 ys[k].pat.ct) ∧ w'.cell? ⟨b2, off2 + k * 9 + 2, none⟩ = some (.int .i64 ys[k].pat.n) ∧ w'.cell? ⟨b2, off2 + k * 9 + 3, none⟩ = some (.int .i64 ys[k].pat.m) ∧ w'.cell? ⟨b2, off2 + k * 9 + 4, none⟩ = some (.int .i64 ys[k].pat.va) ∧ w'.cell? ⟨b2, off2 + k * 9 + 5, none⟩ = some (.slice A2 ys[k].pat.ks.length cap2) ∧ w'.cell? ⟨b2, off2 + k * 9 + 6, none⟩ = some (.int .i64 ys[k].gd.op) ∧ w'.cell? ⟨b2, off2 + k * 9 + 7, none⟩ = some (.int .i64 ys[k].gd.va) ∧ w'.cell? ⟨b2, off2 + k * 9 + 8, none⟩ = some (.int .i64 ys[k].gd.n)) (first | assumption | (exact ⟨c0, c1, c2, c3, c4, c5, c6, c7, c8, d0, d1, d2, d3, d4, d5, d6, d7, d8⟩) | (exact HKeep.out wr.drew w' ⟨c0, c1, c2, c3, c4, c5, c6, c7, c8, d0, d1, d2, d3, d4, d5, d6, d7, d8⟩ hB' (Nat.le_refl _))) (first | (go_at_call 60; ((with_reducible refine (spec_PatternSame xs[k].pat ys[k].pat _ _ _ G1 G2 (ClR_pat HV.out).drew (ClR_pat HV2.out).drew (Under.drew (HG1.out.mono hB.size)) (Under.drew (HG2.out.mono hB.size))).mono ?_); rintro e w' ⟨rfl, hB'⟩; rw [HS.out])))
            have hB3 := hB.drew.trans (hB'.mono hB.size)
            go_wp2
            go_ret
            exact ⟨ret_bool hf.out.symm, hB3⟩
      · have hT := HT.out
        rw [List.drop_of_length_le (by omega), List.drop_of_length_le (by omega)] at hT
        have hf : Hid (sameBy Cl.same xs ys = true) := hT
        clear hT
        go_wp2
        go_ret
        exact ⟨ret_bool hf.out.symm, hB⟩
  · have tl : ((xs.length : Int) != (ys.length : Int)) = true := by rw [bne_iff_ne]; omega
    have hf := Lib.hid (sameBy_len_false (f := Cl.same) hl)
    clear hl
    go_enter Try.func13, Try.ntmps13
    go_wp2
    go_ret
    exact ⟨ret_bool hf.out.symm, Below.refl _ _⟩
end Go.Proofs.Ytjejbdbfjiocoaa
