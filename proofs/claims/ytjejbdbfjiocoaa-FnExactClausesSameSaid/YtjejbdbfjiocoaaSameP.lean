/-
  PatternSame of the reference: equality of Patterns. Conditions: none.
-/
import Derived.Test.YtjejbdbfjiocoaaP
import Derived.Test.YtjejbdbfjiocoaaChecked
import Derived.Deep.RegionHeld3
import Derived.BigQuiet
namespace Go.Proofs.Ytjejbdbfjiocoaa
open Go.RowKit

mutual
def P.same : P → P → Bool
  | ⟨op, ct, n, m, va, ks⟩, ⟨op', ct', n', m', va', ks'⟩ => (op == op') && (ct == ct') && (n == n') && (m == m') && (va == va') && P.sames ks ks'
def P.sames : List P → List P → Bool
  | [], [] => true
  | x :: xs, y :: ys => P.same x y && P.sames xs ys
  | [], _ :: _ => false
  | _ :: _, [] => false
end
theorem P.sames_iff_of (ks : List P) (h : ∀ k ∈ ks, ∀ b, P.same k b = true ↔ k = b) : ∀ ks', P.sames ks ks' = true ↔ ks = ks' := by
  induction ks with
  | nil => intro ks'; cases ks' <;> simp [P.sames]
  | cons x xs ih =>
    intro ks'
    cases ks' with
    | nil => simp [P.sames]
    | cons y ys =>
      simp only [P.sames, Bool.and_eq_true, List.cons.injEq]
      rw [h x (by simp) y, ih (fun k hk => h k (by simp [hk])) ys]
theorem P.same_iff : ∀ a b : P, P.same a b = true ↔ a = b := P.ind fun op ct n m va ks ih b => by
  obtain ⟨op', ct', n', m', va', ks'⟩ := b
  simp only [P.same, Bool.and_eq_true, P.sames_iff_of ks ih, beq_iff_eq, P.mk.injEq, and_assoc]
theorem P.same_false {a b : P} (h : a ≠ b) : P.same a b = false := by
  rw [Bool.eq_false_iff]
  exact fun e => h ((P.same_iff a b).1 e)

def SameSpecP (a : P) : Prop := ∀ (b : P) (w : World) (cs ds : List Value) (F G : List Nat), PR w a cs F → PR w b ds G → Under w.heap.size F → Under w.heap.size G →
  Calls Try.prog 60 #[.agg cs.toArray, .agg ds.toArray] w fun e w' => e = .returned (.bool (P.same a b)) ∧ Below w.heap.size w w'

set_option maxRecDepth 100000 in
set_option maxHeartbeats 1600000 in
theorem spec_PatternSame_all : ∀ a, SameSpecP a := P.ind fun op ct n m va ks ih b w cs ds F G hv hv' hF hG => by
  obtain ⟨op', ct', n', m', va', ks'⟩ := b
  obtain ⟨kv, rfl, hk⟩ := (PR_iff _ _ _).1 hv
  obtain ⟨kv', rfl, hk'⟩ := (PR_iff _ _ _).1 hv'
  have IH := Lib.hid ih
  clear ih hv hv'
  have HK := Lib.hid hk
  have HK' := Lib.hid hk'
  obtain ⟨A, cap, rfl, hc1, hc2⟩ := hk.form
  obtain ⟨A', cap', rfl, hc3, hc4⟩ := hk'.form
  clear hk hk'
  have HF := Lib.hid hF
  have HG := Lib.hid hG
  clear hF hG
  by_cases e0 : op = op'
  · subst e0
    have t0 : (op != op) = false := by simp
    have s0 : (op == op) = true := by simp
    by_cases e1 : ct = ct'
    · subst e1
      have t1 : (ct != ct) = false := by simp
      have s1 : (ct == ct) = true := by simp
      by_cases e2 : n = n'
      · subst e2
        have t2 : (n != n) = false := by simp
        have s2 : (n == n) = true := by simp
        by_cases e3 : m = m'
        · subst e3
          have t3 : (m != m) = false := by simp
          have s3 : (m == m) = true := by simp
          by_cases e4 : va = va'
          · subst e4
            have t4 : (va != va) = false := by simp
            have s4 : (va == va) = true := by simp
            by_cases hl : ks.length = ks'.length
            · have tl : ((ks.length : Int) != (ks'.length : Int)) = false := by rw [hl]; simp
              have HL := Lib.hid hl
              have hle1 : ks.length ≤ ks'.length := by omega
              have hle2 : ks'.length ≤ ks.length := by omega
              clear hl
              go_enter Try.func60, Try.ntmps60
              go_wp2
              obtain ⟨W2, hW2⟩ : ∃ W2, W2 = (w.alloc (.cells #[.int .i64 op, .int .i64 ct, .int .i64 n, .int .i64 m, .int .i64 va, .slice A ks.length cap] 51)).alloc (.cells #[.int .i64 op, .int .i64 ct, .int .i64 n, .int .i64 m, .int .i64 va, .slice A' ks'.length cap'] 51) := ⟨_, rfl⟩
              have hB2 : Below w.heap.size w W2 := by rw [hW2]; exact ((Below.refl _ _).alloc (Nat.le_refl _) _).alloc (by simp) _
              have hz2 : W2.heap.size = w.heap.size + 2 := by rw [hW2]; simp
              have k1 : Blk W2 w.heap.size 51 #[.int .i64 op, .int .i64 ct, .int .i64 n, .int .i64 m, .int .i64 va, .slice A ks.length cap] := by rw [hW2]; exact (Blk.new w _ _).same (Below.heap_alloc _ _ _ (by simp))
              have k2 : Blk W2 (w.heap.size + 1) 51 #[.int .i64 op, .int .i64 ct, .int .i64 n, .int .i64 m, .int .i64 va, .slice A' ks'.length cap'] := by rw [hW2]; have := Blk.new (w.alloc (.cells #[.int .i64 op, .int .i64 ct, .int .i64 n, .int .i64 m, .int .i64 va, .slice A ks.length cap] 51)) 51 #[.int .i64 op, .int .i64 ct, .int .i64 n, .int .i64 m, .int .i64 va, .slice A' ks'.length cap']; simpa using this
              rw [← hW2]
              clear hW2
              have K1 := Lib.hid k1
              have K2 := Lib.hid k2
              have HZ2 := Lib.hid hz2
              clear k1 k2 hz2
              go_loopw [5] (fun i wr => ∃ k : Nat, k ≤ ks.length ∧ i = .int .i64 k ∧ Hid (ks.take k = ks'.take k) ∧ Below W2.heap.size W2 wr) (fun i _ => ks.length - (intOf i).toNat)
              case atStart => exact ⟨0, Nat.zero_le _, rfl, rfl, Below.refl _ _⟩
              case round =>
                obtain ⟨k, hk, rfl, HT, hB1⟩ := hrel
                have hB := hB2.trans (hB1.mono hB2.size)
                have hszr : w.heap.size + 2 ≤ wr.heap.size := by have := hB1.size; have := HZ2.out; omega
                have x2 : wr.cell? ⟨w.heap.size, 5, none⟩ = some (.slice A ks.length cap) := ((K1.out.same (hB1.block _ (by have := HZ2.out; omega))).cell 5).trans (by simp)
                have y2 : wr.cell? ⟨w.heap.size + 1, 5, none⟩ = some (.slice A' ks'.length cap') := ((K2.out.same (hB1.block _ (by have := HZ2.out; omega))).cell 5).trans (by simp)
                by_cases hlt : k < ks.length
                · have hlt' : k < ks'.length := by omega
                  obtain ⟨b, off, cs, F1, rfl, hb, hcs, hv, hF1⟩ := HK.out.get PR_len hlt
                  obtain ⟨b', off', ds, G1, rfl, hb', hds, hv', hG1⟩ := HK'.out.get PR_len hlt'
                  have hv1 := hv.below hB (HF.out.sub hF1)
                  have hv2 := hv'.below hB (HG.out.sub hG1)
                  have hbl := HF.out b hb
                  have hbl' := HG.out b' hb'
                  have hcs1 := hcs.same (hB.block b hbl)
                  have hds1 := hds.same (hB.block b' hbl')
                  obtain ⟨kv, rfl, hka⟩ := (PR_iff _ _ _).1 hv
                  obtain ⟨kv', rfl, hka'⟩ := (PR_iff _ _ _).1 hv'
                  obtain ⟨A1, cap1, rfl, -, -⟩ := hka.form
                  obtain ⟨A2, cap2, rfl, -, -⟩ := hka'.form
                  have c0 := hcs1 0 _ rfl
                  have c1 := hcs1 1 _ rfl
                  have c2 := hcs1 2 _ rfl
                  have c3 := hcs1 3 _ rfl
                  have c4 := hcs1 4 _ rfl
                  have c5 := hcs1 5 _ rfl
                  have d0 := hds1 0 _ rfl
                  have d1 := hds1 1 _ rfl
                  have d2 := hds1 2 _ rfl
                  have d3 := hds1 3 _ rfl
                  have d4 := hds1 4 _ rfl
                  have d5 := hds1 5 _ rfl
                  simp only [Nat.add_zero] at c0 d0
                  clear hcs hcs1 hv hds hds1 hv' hka hka'
                  have HV := Lib.hid hv1
                  have HV2 := Lib.hid hv2
                  have HF1 := Lib.hid (HF.out.sub hF1)
                  have HG1 := Lib.hid (HG.out.sub hG1)
                  clear hv1 hv2 hF1 hG1
                  by_cases he : ks[k] = ks'[k]
                  · have hsame : P.same ks[k] ks'[k] = true := (P.same_iff _ _).2 he
                    have hT2 : Hid (ks.take (k + 1) = ks'.take (k + 1)) := by rw [take_snoc' ks k hlt, take_snoc' ks' k hlt', HT.out, he]; rfl
                    clear he
                    go_wp2_with fail
                    have hkeep : ∀ U U' : World, (U.cell? ⟨w.heap.size, 5, none⟩ = some (.slice (some ⟨b, off, none⟩) ks.length cap) ∧ U.cell? ⟨w.heap.size + 1, 5, none⟩ = some (.slice (some ⟨b', off', none⟩) ks'.length cap') ∧ U.cell? ⟨b, off + k * 6, none⟩ = some (.int .i64 ks[k].op) ∧ U.cell? ⟨b, off + k * 6 + 1, none⟩ = some (.int .i64 ks[k].ct) ∧ U.cell? ⟨b, off + k * 6 + 2, none⟩ = some (.int .i64 ks[k].n) ∧ U.cell? ⟨b, off + k * 6 + 3, none⟩ = some (.int .i64 ks[k].m) ∧ U.cell? ⟨b, off + k * 6 + 4, none⟩ = some (.int .i64 ks[k].va) ∧ U.cell? ⟨b, off + k * 6 + 5, none⟩ = some (.slice A1 ks[k].ks.length cap1) ∧ U.cell? ⟨b', off' + k * 6, none⟩ = some (.int .i64 ks'[k].op) ∧ U.cell? ⟨b', off' + k * 6 + 1, none⟩ = some (.int .i64 ks'[k].ct) ∧ U.cell? ⟨b', off' + k * 6 + 2, none⟩ = some (.int .i64 ks'[k].n) ∧ U.cell? ⟨b', off' + k * 6 + 3, none⟩ = some (.int .i64 ks'[k].m) ∧ U.cell? ⟨b', off' + k * 6 + 4, none⟩ = some (.int .i64 ks'[k].va) ∧ U.cell? ⟨b', off' + k * 6 + 5, none⟩ = some (.slice A2 ks'[k].ks.length cap2)) → Below U.heap.size U U' → wr.heap.size ≤ U.heap.size → (U'.cell? ⟨w.heap.size, 5, none⟩ = some (.slice (some ⟨b, off, none⟩) ks.length cap) ∧ U'.cell? ⟨w.heap.size + 1, 5, none⟩ = some (.slice (some ⟨b', off', none⟩) ks'.length cap') ∧ U'.cell? ⟨b, off + k * 6, none⟩ = some (.int .i64 ks[k].op) ∧ U'.cell? ⟨b, off + k * 6 + 1, none⟩ = some (.int .i64 ks[k].ct) ∧ U'.cell? ⟨b, off + k * 6 + 2, none⟩ = some (.int .i64 ks[k].n) ∧ U'.cell? ⟨b, off + k * 6 + 3, none⟩ = some (.int .i64 ks[k].m) ∧ U'.cell? ⟨b, off + k * 6 + 4, none⟩ = some (.int .i64 ks[k].va) ∧ U'.cell? ⟨b, off + k * 6 + 5, none⟩ = some (.slice A1 ks[k].ks.length cap1) ∧ U'.cell? ⟨b', off' + k * 6, none⟩ = some (.int .i64 ks'[k].op) ∧ U'.cell? ⟨b', off' + k * 6 + 1, none⟩ = some (.int .i64 ks'[k].ct) ∧ U'.cell? ⟨b', off' + k * 6 + 2, none⟩ = some (.int .i64 ks'[k].n) ∧ U'.cell? ⟨b', off' + k * 6 + 3, none⟩ = some (.int .i64 ks'[k].m) ∧ U'.cell? ⟨b', off' + k * 6 + 4, none⟩ = some (.int .i64 ks'[k].va) ∧ U'.cell? ⟨b', off' + k * 6 + 5, none⟩ = some (.slice A2 ks'[k].ks.length cap2)) := fun U U' h hb hU => ⟨(hb.cell (Nat.lt_of_lt_of_le (show w.heap.size < wr.heap.size from by omega) hU)).trans h.1, (hb.cell (Nat.lt_of_lt_of_le (show w.heap.size + 1 < wr.heap.size from by omega) hU)).trans h.2.1, (hb.cell (Nat.lt_of_lt_of_le (show b < wr.heap.size from by omega) hU)).trans h.2.2.1, (hb.cell (Nat.lt_of_lt_of_le (show b < wr.heap.size from by omega) hU)).trans h.2.2.2.1, (hb.cell (Nat.lt_of_lt_of_le (show b < wr.heap.size from by omega) hU)).trans h.2.2.2.2.1, (hb.cell (Nat.lt_of_lt_of_le (show b < wr.heap.size from by omega) hU)).trans h.2.2.2.2.2.1, (hb.cell (Nat.lt_of_lt_of_le (show b < wr.heap.size from by omega) hU)).trans h.2.2.2.2.2.2.1, (hb.cell (Nat.lt_of_lt_of_le (show b < wr.heap.size from by omega) hU)).trans h.2.2.2.2.2.2.2.1, (hb.cell (Nat.lt_of_lt_of_le (show b' < wr.heap.size from by omega) hU)).trans h.2.2.2.2.2.2.2.2.1, (hb.cell (Nat.lt_of_lt_of_le (show b' < wr.heap.size from by omega) hU)).trans h.2.2.2.2.2.2.2.2.2.1, (hb.cell (Nat.lt_of_lt_of_le (show b' < wr.heap.size from by omega) hU)).trans h.2.2.2.2.2.2.2.2.2.2.1, (hb.cell (Nat.lt_of_lt_of_le (show b' < wr.heap.size from by omega) hU)).trans h.2.2.2.2.2.2.2.2.2.2.2.1, (hb.cell (Nat.lt_of_lt_of_le (show b' < wr.heap.size from by omega) hU)).trans h.2.2.2.2.2.2.2.2.2.2.2.2.1, (hb.cell (Nat.lt_of_lt_of_le (show b' < wr.heap.size from by omega) hU)).trans h.2.2.2.2.2.2.2.2.2.2.2.2.2⟩
                    have HKeep := Lib.hid hkeep
                    clear hkeep
                    go_region_held3 (fun w' => w'.cell? ⟨w.heap.size, 5, none⟩ = some (.slice (some ⟨b, off, none⟩) ks.length cap) ∧ w'.cell? ⟨w.heap.size + 1, 5, none⟩ = some (.slice (some ⟨b', off', none⟩) ks'.length cap') ∧ w'.cell? ⟨b, off + k * 6, none⟩ = some (.int .i64 ks[k].op) ∧ w'.cell? ⟨b, off + k * 6 + 1, none⟩ = some (.int .i64 ks[k].ct) ∧ w'.cell? ⟨b, off + k * 6 + 2, none⟩ = some (.int .i64 ks[k].n) ∧ w'.cell? ⟨b, off + k * 6 + 3, none⟩ = some (.int .i64 ks[k].m) ∧ w'.cell? ⟨b, off + k * 6 + 4, none⟩ = some (.int .i64 ks[k].va) ∧ w'.cell? ⟨b, off + k * 6 + 5, none⟩ = some (.slice A1 ks[k].ks.length cap1) ∧ w'.cell? ⟨b', off' + k * 6, none⟩ = some (.int .i64 ks'[k].op) ∧ w'.cell? ⟨b', off' + k * 6 + 1, none⟩ = some (.int .i64 ks'[k].ct) ∧ w'.cell? ⟨b', off' + k * 6 + 2, none⟩ = some (.int .i64 ks'[k].n) ∧ w'.cell? ⟨b', off' + k * 6 + 3, none⟩ = some (.int .i64 ks'[k].m) ∧ w'.cell? ⟨b', off' + k * 6 + 4, none⟩ = some (.int .i64 ks'[k].va) ∧ w'.cell? ⟨b', off' + k * 6 + 5, none⟩ = some (.slice A2 ks'[k].ks.length cap2)) (first | assumption | (exact ⟨x2, y2, c0, c1, c2, c3, c4, c5, d0, d1, d2, d3, d4, d5⟩) | (exact HKeep.out wr.drew w' ⟨x2, y2, c0, c1, c2, c3, c4, c5, d0, d1, d2, d3, d4, d5⟩ hB' (Nat.le_refl _))) (first | (go_at_call 60; refine (IH.out _ (List.getElem_mem hlt) ks'[k] _ _ _ F1 G1 HV.out.drew HV2.out.drew (HF1.out.mono hB.size) (HG1.out.mono hB.size)).mono ?_; rintro e w' ⟨rfl, hB'⟩; rw [hsame]))
                    have hB3 := hB1.drew.trans (hB'.mono hB1.size)
                    go_wp2
                    go_roundw
                    case rel => exact ⟨k + 1, by omega, by go_num, hT2, hB3⟩
                    case measure => simp [intOf]; omega
                  · have hsame : P.same ks[k] ks'[k] = false := P.same_false he
                    have hf := Lib.hid (P.same_false (a := ⟨op, ct, n, m, va, ks⟩) (b := ⟨op, ct, n, m, va, ks'⟩) (fun h => he (by injection h; simp_all)))
                    clear he
                    go_wp2_with fail
                    have hkeep : ∀ U U' : World, (U.cell? ⟨w.heap.size, 5, none⟩ = some (.slice (some ⟨b, off, none⟩) ks.length cap) ∧ U.cell? ⟨w.heap.size + 1, 5, none⟩ = some (.slice (some ⟨b', off', none⟩) ks'.length cap') ∧ U.cell? ⟨b, off + k * 6, none⟩ = some (.int .i64 ks[k].op) ∧ U.cell? ⟨b, off + k * 6 + 1, none⟩ = some (.int .i64 ks[k].ct) ∧ U.cell? ⟨b, off + k * 6 + 2, none⟩ = some (.int .i64 ks[k].n) ∧ U.cell? ⟨b, off + k * 6 + 3, none⟩ = some (.int .i64 ks[k].m) ∧ U.cell? ⟨b, off + k * 6 + 4, none⟩ = some (.int .i64 ks[k].va) ∧ U.cell? ⟨b, off + k * 6 + 5, none⟩ = some (.slice A1 ks[k].ks.length cap1) ∧ U.cell? ⟨b', off' + k * 6, none⟩ = some (.int .i64 ks'[k].op) ∧ U.cell? ⟨b', off' + k * 6 + 1, none⟩ = some (.int .i64 ks'[k].ct) ∧ U.cell? ⟨b', off' + k * 6 + 2, none⟩ = some (.int .i64 ks'[k].n) ∧ U.cell? ⟨b', off' + k * 6 + 3, none⟩ = some (.int .i64 ks'[k].m) ∧ U.cell? ⟨b', off' + k * 6 + 4, none⟩ = some (.int .i64 ks'[k].va) ∧ U.cell? ⟨b', off' + k * 6 + 5, none⟩ = some (.slice A2 ks'[k].ks.length cap2)) → Below U.heap.size U U' → wr.heap.size ≤ U.heap.size → (U'.cell? ⟨w.heap.size, 5, none⟩ = some (.slice (some ⟨b, off, none⟩) ks.length cap) ∧ U'.cell? ⟨w.heap.size + 1, 5, none⟩ = some (.slice (some ⟨b', off', none⟩) ks'.length cap') ∧ U'.cell? ⟨b, off + k * 6, none⟩ = some (.int .i64 ks[k].op) ∧ U'.cell? ⟨b, off + k * 6 + 1, none⟩ = some (.int .i64 ks[k].ct) ∧ U'.cell? ⟨b, off + k * 6 + 2, none⟩ = some (.int .i64 ks[k].n) ∧ U'.cell? ⟨b, off + k * 6 + 3, none⟩ = some (.int .i64 ks[k].m) ∧ U'.cell? ⟨b, off + k * 6 + 4, none⟩ = some (.int .i64 ks[k].va) ∧ U'.cell? ⟨b, off + k * 6 + 5, none⟩ = some (.slice A1 ks[k].ks.length cap1) ∧ U'.cell? ⟨b', off' + k * 6, none⟩ = some (.int .i64 ks'[k].op) ∧ U'.cell? ⟨b', off' + k * 6 + 1, none⟩ = some (.int .i64 ks'[k].ct) ∧ U'.cell? ⟨b', off' + k * 6 + 2, none⟩ = some (.int .i64 ks'[k].n) ∧ U'.cell? ⟨b', off' + k * 6 + 3, none⟩ = some (.int .i64 ks'[k].m) ∧ U'.cell? ⟨b', off' + k * 6 + 4, none⟩ = some (.int .i64 ks'[k].va) ∧ U'.cell? ⟨b', off' + k * 6 + 5, none⟩ = some (.slice A2 ks'[k].ks.length cap2)) := fun U U' h hb hU => ⟨(hb.cell (Nat.lt_of_lt_of_le (show w.heap.size < wr.heap.size from by omega) hU)).trans h.1, (hb.cell (Nat.lt_of_lt_of_le (show w.heap.size + 1 < wr.heap.size from by omega) hU)).trans h.2.1, (hb.cell (Nat.lt_of_lt_of_le (show b < wr.heap.size from by omega) hU)).trans h.2.2.1, (hb.cell (Nat.lt_of_lt_of_le (show b < wr.heap.size from by omega) hU)).trans h.2.2.2.1, (hb.cell (Nat.lt_of_lt_of_le (show b < wr.heap.size from by omega) hU)).trans h.2.2.2.2.1, (hb.cell (Nat.lt_of_lt_of_le (show b < wr.heap.size from by omega) hU)).trans h.2.2.2.2.2.1, (hb.cell (Nat.lt_of_lt_of_le (show b < wr.heap.size from by omega) hU)).trans h.2.2.2.2.2.2.1, (hb.cell (Nat.lt_of_lt_of_le (show b < wr.heap.size from by omega) hU)).trans h.2.2.2.2.2.2.2.1, (hb.cell (Nat.lt_of_lt_of_le (show b' < wr.heap.size from by omega) hU)).trans h.2.2.2.2.2.2.2.2.1, (hb.cell (Nat.lt_of_lt_of_le (show b' < wr.heap.size from by omega) hU)).trans h.2.2.2.2.2.2.2.2.2.1, (hb.cell (Nat.lt_of_lt_of_le (show b' < wr.heap.size from by omega) hU)).trans h.2.2.2.2.2.2.2.2.2.2.1, (hb.cell (Nat.lt_of_lt_of_le (show b' < wr.heap.size from by omega) hU)).trans h.2.2.2.2.2.2.2.2.2.2.2.1, (hb.cell (Nat.lt_of_lt_of_le (show b' < wr.heap.size from by omega) hU)).trans h.2.2.2.2.2.2.2.2.2.2.2.2.1, (hb.cell (Nat.lt_of_lt_of_le (show b' < wr.heap.size from by omega) hU)).trans h.2.2.2.2.2.2.2.2.2.2.2.2.2⟩
                    have HKeep := Lib.hid hkeep
                    clear hkeep
                    go_region_held3 (fun w' => w'.cell? ⟨w.heap.size, 5, none⟩ = some (.slice (some ⟨b, off, none⟩) ks.length cap) ∧ w'.cell? ⟨w.heap.size + 1, 5, none⟩ = some (.slice (some ⟨b', off', none⟩) ks'.length cap') ∧ w'.cell? ⟨b, off + k * 6, none⟩ = some (.int .i64 ks[k].op) ∧ w'.cell? ⟨b, off + k * 6 + 1, none⟩ = some (.int .i64 ks[k].ct) ∧ w'.cell? ⟨b, off + k * 6 + 2, none⟩ = some (.int .i64 ks[k].n) ∧ w'.cell? ⟨b, off + k * 6 + 3, none⟩ = some (.int .i64 ks[k].m) ∧ w'.cell? ⟨b, off + k * 6 + 4, none⟩ = some (.int .i64 ks[k].va) ∧ w'.cell? ⟨b, off + k * 6 + 5, none⟩ = some (.slice A1 ks[k].ks.length cap1) ∧ w'.cell? ⟨b', off' + k * 6, none⟩ = some (.int .i64 ks'[k].op) ∧ w'.cell? ⟨b', off' + k * 6 + 1, none⟩ = some (.int .i64 ks'[k].ct) ∧ w'.cell? ⟨b', off' + k * 6 + 2, none⟩ = some (.int .i64 ks'[k].n) ∧ w'.cell? ⟨b', off' + k * 6 + 3, none⟩ = some (.int .i64 ks'[k].m) ∧ w'.cell? ⟨b', off' + k * 6 + 4, none⟩ = some (.int .i64 ks'[k].va) ∧ w'.cell? ⟨b', off' + k * 6 + 5, none⟩ = some (.slice A2 ks'[k].ks.length cap2)) (first | assumption | (exact ⟨x2, y2, c0, c1, c2, c3, c4, c5, d0, d1, d2, d3, d4, d5⟩) | (exact HKeep.out wr.drew w' ⟨x2, y2, c0, c1, c2, c3, c4, c5, d0, d1, d2, d3, d4, d5⟩ hB' (Nat.le_refl _))) (first | (go_at_call 60; refine (IH.out _ (List.getElem_mem hlt) ks'[k] _ _ _ F1 G1 HV.out.drew HV2.out.drew (HF1.out.mono hB.size) (HG1.out.mono hB.size)).mono ?_; rintro e w' ⟨rfl, hB'⟩; rw [hsame]))
                    have hB3 := hB.drew.trans (hB'.mono hB.size)
                    go_wp2
                    go_ret
                    exact ⟨ret_bool hf.out.symm, hB3⟩
                · have hT := HT.out
                  rw [List.take_of_length_le (by omega), List.take_of_length_le (by omega)] at hT
                  have hf := Lib.hid ((P.same_iff ⟨op, ct, n, m, va, ks⟩ ⟨op, ct, n, m, va, ks'⟩).2 (by rw [hT]))
                  clear hT
                  go_wp2
                  go_ret
                  exact ⟨ret_bool hf.out.symm, hB⟩
            · have tl : ((ks.length : Int) != (ks'.length : Int)) = true := by rw [bne_iff_ne]; omega
              have hf := Lib.hid (P.same_false (a := ⟨op, ct, n, m, va, ks⟩) (b := ⟨op, ct, n, m, va, ks'⟩) (fun h => hl (by injection h; simp_all)))
              clear hl
              go_enter Try.func60, Try.ntmps60
              go_wp2
              go_ret
              exact ⟨ret_bool hf.out.symm, ((Below.refl _ _).alloc (Nat.le_refl _) _).alloc (by simp) _⟩
          · have t4 : (va != va') = true := by simpa using e4
            have s4 : (va == va') = false := by simpa using e4
            have hf := Lib.hid (P.same_false (a := ⟨op, ct, n, m, va, ks⟩) (b := ⟨op, ct, n, m, va', ks'⟩) (fun h => e4 (by injection h)))
            clear e4
            go_enter Try.func60, Try.ntmps60
            go_wp2
            go_ret
            exact ⟨ret_bool hf.out.symm, ((Below.refl _ _).alloc (Nat.le_refl _) _).alloc (by simp) _⟩
        · have t3 : (m != m') = true := by simpa using e3
          have s3 : (m == m') = false := by simpa using e3
          have hf := Lib.hid (P.same_false (a := ⟨op, ct, n, m, va, ks⟩) (b := ⟨op, ct, n, m', va', ks'⟩) (fun h => e3 (by injection h)))
          clear e3
          go_enter Try.func60, Try.ntmps60
          go_wp2
          go_ret
          exact ⟨ret_bool hf.out.symm, ((Below.refl _ _).alloc (Nat.le_refl _) _).alloc (by simp) _⟩
      · have t2 : (n != n') = true := by simpa using e2
        have s2 : (n == n') = false := by simpa using e2
        have hf := Lib.hid (P.same_false (a := ⟨op, ct, n, m, va, ks⟩) (b := ⟨op, ct, n', m', va', ks'⟩) (fun h => e2 (by injection h)))
        clear e2
        go_enter Try.func60, Try.ntmps60
        go_wp2
        go_ret
        exact ⟨ret_bool hf.out.symm, ((Below.refl _ _).alloc (Nat.le_refl _) _).alloc (by simp) _⟩
    · have t1 : (ct != ct') = true := by simpa using e1
      have s1 : (ct == ct') = false := by simpa using e1
      have hf := Lib.hid (P.same_false (a := ⟨op, ct, n, m, va, ks⟩) (b := ⟨op, ct', n', m', va', ks'⟩) (fun h => e1 (by injection h)))
      clear e1
      go_enter Try.func60, Try.ntmps60
      go_wp2
      go_ret
      exact ⟨ret_bool hf.out.symm, ((Below.refl _ _).alloc (Nat.le_refl _) _).alloc (by simp) _⟩
  · have t0 : (op != op') = true := by simpa using e0
    have s0 : (op == op') = false := by simpa using e0
    have hf := Lib.hid (P.same_false (a := ⟨op, ct, n, m, va, ks⟩) (b := ⟨op', ct', n', m', va', ks'⟩) (fun h => e0 (by injection h)))
    clear e0
    go_enter Try.func60, Try.ntmps60
    go_wp2
    go_ret
    exact ⟨ret_bool hf.out.symm, ((Below.refl _ _).alloc (Nat.le_refl _) _).alloc (by simp) _⟩

theorem spec_PatternSame (a b : P) (w : World) (cs ds : List Value) (F G : List Nat) (hx : PR w a cs F) (hy : PR w b ds G) (hF : Under w.heap.size F) (hG : Under w.heap.size G) :
    Calls Try.prog 60 #[.agg cs.toArray, .agg ds.toArray] w fun e w' => e = .returned (.bool (P.same a b)) ∧ Below w.heap.size w w' := spec_PatternSame_all a b w cs ds F G hx hy hF hG
end Go.Proofs.Ytjejbdbfjiocoaa
