/-
  PatternSame of the program, by slices.EqualFunc: equality of Patterns. Conditions: none.
-/
import Derived.Test.YtjejbdbfjiocoaaSameP
namespace Go.Proofs.Ytjejbdbfjiocoaa
open Go.RowKit

theorem P.sames_iff (ks ks' : List P) : P.sames ks ks' = true ↔ ks = ks' := P.sames_iff_of ks (fun k _ => P.same_iff k) ks'
theorem P.sames_false {ks ks' : List P} (h : ks ≠ ks') : P.sames ks ks' = false := by
  rw [Bool.eq_false_iff]
  exact fun e => h ((P.sames_iff ks ks').1 e)

def SameImplP (a : P) : Prop := ∀ (b : P) (w : World) (cs ds : List Value) (F G : List Nat), PR w a cs F → PR w b ds G → Under w.heap.size F → Under w.heap.size G →
  Calls Try.prog 63 #[.agg cs.toArray, .agg ds.toArray] w fun e w' => e = .returned (.bool (P.same a b)) ∧ Below w.heap.size w w'

set_option maxRecDepth 100000 in
set_option maxHeartbeats 1600000 in
theorem EqualFunc_ofP (ks : List P) (ih : ∀ k ∈ ks, SameImplP k) (ks' : List P) (w : World) (x y : Value) (F G : List Nat) (hx : Arr w (PR w) ks x F) (hy : Arr w (PR w) ks' y G) (hF : Under w.heap.size F) (hG : Under w.heap.size G) :
    Calls Try.prog 108 #[x, y, .func (.func 63) #[] #[]] w fun e w' => e = .returned (.bool (P.sames ks ks')) ∧ Below w.heap.size w w' := by
  have HX := Lib.hid hx
  have HY := Lib.hid hy
  obtain ⟨A, cap, rfl, hc1, hc2⟩ := hx.form
  obtain ⟨A', cap', rfl, hc3, hc4⟩ := hy.form
  clear hx hy
  have IH := Lib.hid ih
  clear ih
  have HF := Lib.hid hF
  have HG := Lib.hid hG
  clear hF hG
  by_cases hl : ks.length = ks'.length
  · have tl : ((ks.length : Int) != (ks'.length : Int)) = false := by rw [hl]; simp
    have HL := Lib.hid hl
    have hle1 : ks.length ≤ ks'.length := by omega
    have hle2 : ks'.length ≤ ks.length := by omega
    clear hl
    go_enter Try.func108, Try.ntmps108
    go_wp2
    go_loopw [17] (fun i wr => ∃ k : Nat, k ≤ ks.length ∧ i = .int .i64 k ∧ Hid (ks.take k = ks'.take k) ∧ Below w.heap.size w wr) (fun i _ => ks.length - (intOf i).toNat)
    case atStart => exact ⟨0, Nat.zero_le _, rfl, rfl, Below.refl _ _⟩
    case round =>
      obtain ⟨k, hk, rfl, HT, hB⟩ := hrel
      by_cases hlt : k < ks.length
      · have hlt' : k < ks'.length := by omega
        obtain ⟨b, off, cs, F1, rfl, hb, hcs, hv, hF1⟩ := HX.out.get PR_len hlt
        obtain ⟨b', off', ds, G1, rfl, hb', hds, hv', hG1⟩ := HY.out.get PR_len hlt'
        have hv1 := hv.below hB (HF.out.sub hF1)
        have hv2 := hv'.below hB (HG.out.sub hG1)
        have hbl := Nat.lt_of_lt_of_le (HF.out b hb) hB.size
        have hbl' := Nat.lt_of_lt_of_le (HG.out b' hb') hB.size
        have hcs1 := hcs.same (hB.block b (HF.out b hb))
        have hds1 := hds.same (hB.block b' (HG.out b' hb'))
        obtain ⟨kv, rfl, hka⟩ := (PR_iff _ _ _).1 hv
        obtain ⟨kv', rfl, hka'⟩ := (PR_iff _ _ _).1 hv'
        obtain ⟨A1, cap1, rfl, -, -⟩ := hka.form
        obtain ⟨A2, cap2, rfl, -, -⟩ := hka'.form
        have c0 := hcs1 0 _ rfl
        have c1 := hcs1 1 _ rfl
        have c2 := hcs1 2 _ rfl
        have c3 := hcs1 3 _ rfl
        have c4 := hcs1 4 _ rfl
        have c5 := hcs1 5 _ rfl
        have d0 := hds1 0 _ rfl
        have d1 := hds1 1 _ rfl
        have d2 := hds1 2 _ rfl
        have d3 := hds1 3 _ rfl
        have d4 := hds1 4 _ rfl
        have d5 := hds1 5 _ rfl
        simp only [Nat.add_zero] at c0 d0
        clear hcs hcs1 hv hds hds1 hv' hka hka'
        have HV := Lib.hid hv1
        have HV2 := Lib.hid hv2
        have HF1 := Lib.hid (HF.out.sub hF1)
        have HG1 := Lib.hid (HG.out.sub hG1)
        clear hv1 hv2 hF1 hG1
        go_wp2_with fail
        obtain ⟨W2, hW2⟩ : ∃ W2, W2 = (wr.alloc (.cells #[.int .i64 ks[k].op, .int .i64 ks[k].ct, .int .i64 ks[k].n, .int .i64 ks[k].m, .int .i64 ks[k].va, .slice A1 ks[k].ks.length cap1] 51)).alloc (.cells #[.int .i64 ks'[k].op, .int .i64 ks'[k].ct, .int .i64 ks'[k].n, .int .i64 ks'[k].m, .int .i64 ks'[k].va, .slice A2 ks'[k].ks.length cap2] 51) := ⟨_, rfl⟩
        have hb2 : Below wr.heap.size wr W2 := by rw [hW2]; exact ((Below.refl _ _).alloc (Nat.le_refl _) _).alloc (by simp) _
        rw [← hW2]
        clear hW2
        have hB2 := hB.trans (hb2.mono hB.size)
        refine (IH.out _ (List.getElem_mem hlt) ks'[k] W2 _ _ F1 G1 (HV.out.below hb2 (HF1.out.mono hB.size)) (HV2.out.below hb2 (HG1.out.mono hB.size)) (HF1.out.mono hB2.size) (HG1.out.mono hB2.size)).mono ?_
        rintro e w' ⟨rfl, hB'⟩
        have hB3 := hB2.trans (hB'.mono hB2.size)
        by_cases he : ks[k] = ks'[k]
        · rw [(P.same_iff _ _).2 he]
          have hT2 : Hid (ks.take (k + 1) = ks'.take (k + 1)) := by rw [take_snoc' ks k hlt, take_snoc' ks' k hlt', HT.out, he]; rfl
          clear he
          go_wp2
          go_roundw
          case rel => exact ⟨k + 1, by omega, by go_num, hT2, hB3⟩
          case measure => simp [intOf]; omega
        · rw [P.same_false he]
          have hf := Lib.hid (P.sames_false (ks := ks) (ks' := ks') (fun h => he (by simp only [h])))
          clear he
          go_wp2
          go_ret
          exact ⟨ret_bool hf.out.symm, hB3⟩
      · have hT := HT.out
        rw [List.take_of_length_le (by omega), List.take_of_length_le (by omega)] at hT
        have hf := Lib.hid ((P.sames_iff ks ks').2 hT)
        clear hT
        go_wp2
        go_ret
        exact ⟨ret_bool hf.out.symm, hB⟩
  · have tl : ((ks.length : Int) != (ks'.length : Int)) = true := by rw [bne_iff_ne]; omega
    have hf := Lib.hid (P.sames_false (ks := ks) (ks' := ks') (fun h => hl (by rw [h])))
    clear hl
    go_enter Try.func108, Try.ntmps108
    go_wp2
    go_ret
    exact ⟨ret_bool hf.out.symm, Below.refl _ _⟩

set_option maxRecDepth 100000 in
set_option maxHeartbeats 1600000 in
theorem impl_PatternSame_all : ∀ a, SameImplP a := P.ind fun op ct n m va ks ih b w cs ds F G hv hv' hF hG => by
  obtain ⟨op', ct', n', m', va', ks'⟩ := b
  obtain ⟨kv, rfl, hk⟩ := (PR_iff _ _ _).1 hv
  obtain ⟨kv', rfl, hk'⟩ := (PR_iff _ _ _).1 hv'
  have IH := Lib.hid ih
  clear ih hv hv'
  have HK := Lib.hid hk
  have HK' := Lib.hid hk'
  obtain ⟨A, cap, rfl, hc1, hc2⟩ := hk.form
  obtain ⟨A', cap', rfl, hc3, hc4⟩ := hk'.form
  clear hk hk'
  have HF := Lib.hid hF
  have HG := Lib.hid hG
  clear hF hG
  by_cases e0 : op = op'
  · subst e0
    have t0 : (op != op) = false := by simp
    have s0 : (op == op) = true := by simp
    by_cases e1 : ct = ct'
    · subst e1
      have t1 : (ct != ct) = false := by simp
      have s1 : (ct == ct) = true := by simp
      by_cases e2 : n = n'
      · subst e2
        have t2 : (n != n) = false := by simp
        have s2 : (n == n) = true := by simp
        by_cases e3 : m = m'
        · subst e3
          have t3 : (m != m) = false := by simp
          have s3 : (m == m) = true := by simp
          by_cases e4 : va = va'
          · subst e4
            have t4 : (va != va) = false := by simp
            have s4 : (va == va) = true := by simp
            go_enter Try.func63, Try.ntmps63
            go_wp2_with fail
            obtain ⟨W2, hW2⟩ : ∃ W2, W2 = (w.alloc (.cells #[.int .i64 op, .int .i64 ct, .int .i64 n, .int .i64 m, .int .i64 va, .slice A ks.length cap] 51)).alloc (.cells #[.int .i64 op, .int .i64 ct, .int .i64 n, .int .i64 m, .int .i64 va, .slice A' ks'.length cap'] 51) := ⟨_, rfl⟩
            have hB2 : Below w.heap.size w W2 := by rw [hW2]; exact ((Below.refl _ _).alloc (Nat.le_refl _) _).alloc (by simp) _
            rw [← hW2]
            clear hW2
            refine (EqualFunc_ofP ks IH.out ks' W2 _ _ F G (ArrP.below HK.out hB2 HF.out) (ArrP.below HK'.out hB2 HG.out) (HF.out.mono hB2.size) (HG.out.mono hB2.size)).mono ?_
            rintro e w' ⟨rfl, hB'⟩
            have hB3 := hB2.trans (hB'.mono hB2.size)
            have hf : Hid (P.sames ks ks' = P.same ⟨op, ct, n, m, va, ks⟩ ⟨op, ct, n, m, va, ks'⟩) := by simp [Hid, P.same]
            generalize P.sames ks ks' = bb at *
            go_wp2
            go_ret
            exact ⟨ret_bool hf.out, hB3⟩
          · have t4 : (va != va') = true := by simpa using e4
            have s4 : (va == va') = false := by simpa using e4
            have hf := Lib.hid (P.same_false (a := ⟨op, ct, n, m, va, ks⟩) (b := ⟨op, ct, n, m, va', ks'⟩) (fun h => e4 (by injection h)))
            clear e4
            go_enter Try.func63, Try.ntmps63
            go_wp2
            go_ret
            exact ⟨ret_bool hf.out.symm, ((Below.refl _ _).alloc (Nat.le_refl _) _).alloc (by simp) _⟩
        · have t3 : (m != m') = true := by simpa using e3
          have s3 : (m == m') = false := by simpa using e3
          have hf := Lib.hid (P.same_false (a := ⟨op, ct, n, m, va, ks⟩) (b := ⟨op, ct, n, m', va', ks'⟩) (fun h => e3 (by injection h)))
          clear e3
          go_enter Try.func63, Try.ntmps63
          go_wp2
          go_ret
          exact ⟨ret_bool hf.out.symm, ((Below.refl _ _).alloc (Nat.le_refl _) _).alloc (by simp) _⟩
      · have t2 : (n != n') = true := by simpa using e2
        have s2 : (n == n') = false := by simpa using e2
        have hf := Lib.hid (P.same_false (a := ⟨op, ct, n, m, va, ks⟩) (b := ⟨op, ct, n', m', va', ks'⟩) (fun h => e2 (by injection h)))
        clear e2
        go_enter Try.func63, Try.ntmps63
        go_wp2
        go_ret
        exact ⟨ret_bool hf.out.symm, ((Below.refl _ _).alloc (Nat.le_refl _) _).alloc (by simp) _⟩
    · have t1 : (ct != ct') = true := by simpa using e1
      have s1 : (ct == ct') = false := by simpa using e1
      have hf := Lib.hid (P.same_false (a := ⟨op, ct, n, m, va, ks⟩) (b := ⟨op, ct', n', m', va', ks'⟩) (fun h => e1 (by injection h)))
      clear e1
      go_enter Try.func63, Try.ntmps63
      go_wp2
      go_ret
      exact ⟨ret_bool hf.out.symm, ((Below.refl _ _).alloc (Nat.le_refl _) _).alloc (by simp) _⟩
  · have t0 : (op != op') = true := by simpa using e0
    have s0 : (op == op') = false := by simpa using e0
    have hf := Lib.hid (P.same_false (a := ⟨op, ct, n, m, va, ks⟩) (b := ⟨op', ct', n', m', va', ks'⟩) (fun h => e0 (by injection h)))
    clear e0
    go_enter Try.func63, Try.ntmps63
    go_wp2
    go_ret
    exact ⟨ret_bool hf.out.symm, ((Below.refl _ _).alloc (Nat.le_refl _) _).alloc (by simp) _⟩

theorem impl_PatternSame (a b : P) (w : World) (cs ds : List Value) (F G : List Nat) (hx : PR w a cs F) (hy : PR w b ds G) (hF : Under w.heap.size F) (hG : Under w.heap.size G) :
    Calls Try.prog 63 #[.agg cs.toArray, .agg ds.toArray] w fun e w' => e = .returned (.bool (P.same a b)) ∧ Below w.heap.size w w' := impl_PatternSame_all a b w cs ds F G hx hy hF hG
end Go.Proofs.Ytjejbdbfjiocoaa
