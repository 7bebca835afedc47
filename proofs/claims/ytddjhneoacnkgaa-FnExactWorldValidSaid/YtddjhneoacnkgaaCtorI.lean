/-
  ctorOk of the program: a constructor within the limits, by slices.ContainsFunc and a closure. Conditions: none.
-/
import Derived.Test.YtddjhneoacnkgaaCtor
import Derived.Laws.EntriesVeiled
namespace Go.Proofs.Ytddjhneoacnkgaa
open Go.RowKit

set_option maxRecDepth 100000 in
set_option maxHeartbeats 1600000 in
theorem ctorOk_closure (A : Option Addr) (n cap : Nat) (t : Ty) (w : World) (g : Nat) (hn : n ≤ 9223372036854775807) (hg : w.cell? ⟨g, 0, none⟩ = some (.slice A n cap)) (hgl : g < w.heap.size) :
    Calls Try.prog 83 #[.agg #[.int .i64 t.d, .int .i64 t.i], .pointer (some ⟨g, 0, none⟩)] w fun e w' => e = .returned (.bool (!argOkB n t)) ∧ Below w.heap.size w w' := by
  have HN := Lib.hid hn
  clear hn
  go_enter Try.func83, Try.ntmps83
  go_wp2_with fail
  obtain ⟨W2, hW2⟩ : ∃ W2, W2 = w.alloc (.cells #[.int .i64 t.d, .int .i64 t.i] 33) := ⟨_, rfl⟩
  have hB2 : Below w.heap.size w W2 := by rw [hW2]; exact (Below.refl _ _).alloc (Nat.le_refl _) _
  rw [← hW2]
  clear hW2
  refine (impl_argOk A n cap t W2 HN.out).mono ?_
  rintro e w' ⟨rfl, hB'⟩
  have hB3 := hB2.trans (hB'.mono hB2.size)
  generalize hbb : argOkB n t = bb
  have HBB := Lib.hid hbb
  clear hbb
  go_wp2
  go_ret
  exact ⟨ret_bool (by rw [HBB.out]), hB3⟩

set_option maxRecDepth 100000 in
set_option maxHeartbeats 1600000 in
theorem IndexFunc_Ty (A0 : Option Addr) (n cap0 : Nat) (xs : List Ty) (r : Int) (hr : FirstAt (fun t => !argOkB n t) xs r) (w : World) (x : Value) (F : List Nat) (g : Nat) (hn : n ≤ 9223372036854775807) (hg : w.cell? ⟨g, 0, none⟩ = some (.slice A0 n cap0)) (hgl : g < w.heap.size) (hx : Arr w (TyR w) xs x F) (hF : Under w.heap.size F) :
    Calls Try.prog 97 #[x, .func (.func 83) #[] #[.pointer (some ⟨g, 0, none⟩)]] w fun e w' => e = .returned (.int .i64 r) ∧ Below w.heap.size w w' := by
  have HX := Lib.hid hx
  obtain ⟨A, cap, rfl, hc1, hc2⟩ := hx.form
  clear hx
  have HF := Lib.hid hF
  clear hF
  have HG0 := Lib.hid hg
  have HN := Lib.hid hn
  have HR := Lib.hid hr
  clear hg hn hr
  go_enter Try.func97, Try.ntmps97
  go_wp2
  go_loopw [8] (fun i wr => ∃ k : Nat, k ≤ xs.length ∧ i = .int .i64 k ∧ Hid (∀ j (hj : j < xs.length), j < k → (!argOkB n xs[j]) = false) ∧ Below w.heap.size w wr) (fun i _ => xs.length - (intOf i).toNat)
  case atStart => exact ⟨0, Nat.zero_le _, rfl, fun j hj h => by omega, Below.refl _ _⟩
  case round =>
    obtain ⟨k, hk, rfl, HT, hB⟩ := hrel
    by_cases hlt : k < xs.length
    · have hi0 : (0 : Int) ≤ (k : Int) := by omega
      have hi1 : (k : Int) < (xs.length : Int) := by omega
      obtain ⟨b, off, cs, G, rfl, hb, hcs, hv, -⟩ := HX.out.get TyR_len hlt
      have hbl := HF.out b hb
      have hcs := hcs.same (hB.block b hbl)
      obtain rfl := TyR_form hv
      have c0 := hcs 0 _ rfl
      have c1 := hcs 1 _ rfl
      simp only [Nat.add_zero] at c0
      clear hcs hv hb
      have hbw := Nat.lt_of_lt_of_le hbl hB.size
      go_wp2_with fail
      refine (ctorOk_closure A0 n cap0 xs[k] wr g HN.out ((hB.cell (p := ⟨g, 0, none⟩) hgl).trans HG0.out) (Nat.lt_of_lt_of_le hgl hB.size)).mono ?_
      rintro e w' ⟨rfl, hB'⟩
      have hB3 := hB.trans (hB'.mono hB.size)
      cases hq : argOkB n xs[k] with
      | false =>
        have hf : Hid (r = (k : Int)) := HR.out.hit hlt (by simp [hq]) (fun j hj h => HT.out j hj h)
        clear hq
        go_wp2
        go_ret
        exact ⟨ret_int hf.out.symm, hB3⟩
      | true =>
        have hT2 : Hid (∀ j (hj : j < xs.length), j < k + 1 → (!argOkB n xs[j]) = false) := fun j hj h => by
          rcases Nat.lt_or_ge j k with h2 | h2
          · exact HT.out j hj h2
          · obtain rfl : j = k := by omega
            rw [hq]; rfl
        clear hq
        go_wp2
        go_roundw
        case rel => exact ⟨k + 1, by omega, by go_num, hT2, hB3⟩
        case measure => simp [intOf]; omega
    · have hf : Hid (r = -1) := HR.out.miss (fun j hj => HT.out j hj (by omega))
      go_wp2
      go_ret
      exact ⟨ret_int hf.out.symm, hB⟩

set_option maxRecDepth 100000 in
set_option maxHeartbeats 1600000 in
theorem ContainsFunc_Ty (A0 : Option Addr) (n cap0 : Nat) (xs : List Ty) (w : World) (x : Value) (F : List Nat) (g : Nat) (hn : n ≤ 9223372036854775807) (hg : w.cell? ⟨g, 0, none⟩ = some (.slice A0 n cap0)) (hgl : g < w.heap.size) (hx : Arr w (TyR w) xs x F) (hF : Under w.heap.size F) :
    Calls Try.prog 82 #[x, .func (.func 83) #[] #[.pointer (some ⟨g, 0, none⟩)]] w fun e w' => e = .returned (.bool (xs.any fun t => !argOkB n t)) ∧ Below w.heap.size w w' := by
  obtain ⟨r, hr⟩ := FirstAt.ex (fun t => !argOkB n t) xs
  have hf : Hid ((xs.any fun t => !argOkB n t) = decide (0 ≤ r)) := hr.any
  have hcall := IndexFunc_Ty A0 n cap0 xs r hr w x F g hn hg hgl hx hF
  obtain ⟨A, cap, rfl, hc1, hc2⟩ := hx.form
  have HC := Lib.hid hcall
  clear hcall hr hx hF hn hg
  go_enter Try.func82, Try.ntmps82
  go_wp2_with fail
  refine HC.out.mono ?_
  rintro e w' ⟨rfl, hB'⟩
  go_wp2
  go_ret
  exact ⟨ret_bool hf.out.symm, hB'⟩
theorem any_not_all {α : Type} (p : α → Bool) (l : List α) : (!(l.any fun t => !p t)) = l.all p := by
  induction l with
  | nil => rfl
  | cons x xs ih => rw [List.any_cons, List.all_cons, Bool.not_or, ih, Bool.not_not]

set_option maxRecDepth 100000 in
set_option maxHeartbeats 1600000 in
theorem impl_ctorOk (A0 : Option Addr) (n cap0 : Nat) (c : Kt) (w : World) (cs : List Value) (F : List Nat) (hn : n ≤ 9223372036854775807) (hv : KtR w c cs F) (hF : Under w.heap.size F) :
    Calls Try.prog 54 #[.slice A0 n cap0, .agg cs.toArray] w fun e w' => e = .returned (.bool (ctorOkB n c)) ∧ Below w.heap.size w w' := by
  obtain ⟨kv, rfl, ha, hs⟩ := hv
  have HX := Lib.hid ha
  obtain ⟨A, cap, rfl, hc1, hc2⟩ := ha.form
  clear ha
  have HF := Lib.hid hF
  have HS := Lib.hid hs
  have HN := Lib.hid hn
  clear hF hs hn
  go_enter Try.func54, Try.ntmps54
  go_wp2_with fail
  obtain ⟨W2, hW2⟩ : ∃ W2, W2 = (w.alloc (.cells #[.slice A0 n cap0] 25)).alloc (.cells #[.string c.name, .slice A c.args.length cap, .int .i64 c.idx] 68) := ⟨_, rfl⟩
  have hB2 : Below w.heap.size w W2 := by rw [hW2]; exact ((Below.refl _ _).alloc (Nat.le_refl _) _).alloc (by simp) _
  have k1 : Blk W2 w.heap.size 25 #[.slice A0 n cap0] := by rw [hW2]; exact (Blk.new w _ _).same (Below.heap_alloc _ _ _ (by simp))
  have k2 : Blk W2 (w.heap.size + 1) 68 #[.string c.name, .slice A c.args.length cap, .int .i64 c.idx] := by rw [hW2]; have := Blk.new (w.alloc (.cells #[.slice A0 n cap0] 25)) 68 #[.string c.name, .slice A c.args.length cap, .int .i64 c.idx]; simpa using this
  rw [← hW2]
  clear hW2
  have x0 : W2.cell? ⟨w.heap.size, 0, none⟩ = some (.slice A0 n cap0) := (k1.cell 0).trans (by simp)
  have x1 : W2.cell? ⟨w.heap.size + 1, 1, none⟩ = some (.slice A c.args.length cap) := (k2.cell 1).trans (by simp)
  have x2 : W2.cell? ⟨w.heap.size + 1, 2, none⟩ = some (.int .i64 c.idx) := (k2.cell 2).trans (by simp)
  have hlt0 := k1.lt
  clear k1 k2
  refine (impl_NameValid c.name W2 (by have := HS.out; unfold maxLen; omega)).mono ?_
  rintro e w' ⟨rfl, rfl⟩
  have h0 : ctorOkB n c = (nameOk c.name.data.toList && (decide ((c.args.length : Int) ≤ 3) && (withinB c.idx 0 3 && c.args.all (argOkB n)))) := rfl
  cases hn : nameOk c.name.data.toList with
  | false =>
    have hf : Hid (ctorOkB n c = false) := by rw [h0, hn]; rfl
    clear hn h0
    go_wp2
    go_ret
    exact ⟨ret_bool hf.out.symm, hB2⟩
  | true =>
    rw [hn, Bool.true_and] at h0
    clear hn
    cases hl : decide ((c.args.length : Int) ≤ 3) with
    | false =>
      have hf : Hid (ctorOkB n c = false) := by rw [h0, hl]; rfl
      clear h0
      go_wp2
      go_ret
      exact ⟨ret_bool hf.out.symm, hB2⟩
    | true =>
      rw [hl, Bool.true_and] at h0
      have H0 := Lib.hid h0
      clear h0
      go_wp2_with fail
      refine (impl_within c.idx 0 3 W2).mono ?_
      rintro e w' ⟨rfl, rfl⟩
      cases hi : withinB c.idx 0 3 with
      | false =>
        have hf : Hid (ctorOkB n c = false) := by rw [H0.out, hi]; rfl
        clear hi
        go_wp2
        go_ret
        exact ⟨ret_bool hf.out.symm, hB2⟩
      | true =>
        have hf : Hid (ctorOkB n c = !(c.args.any fun t => !argOkB n t)) := by rw [H0.out, hi, Bool.true_and, any_not_all]; rfl
        clear hi
        go_wp2_with fail
        refine (ContainsFunc_Ty A0 n cap0 c.args W2 _ F w.heap.size HN.out x0 hlt0 (ArrTy.below HX.out hB2 HF.out) (HF.out.mono hB2.size)).mono ?_
        rintro e w' ⟨rfl, hB'⟩
        have hB3 := hB2.trans (hB'.mono hB2.size)
        generalize hbb : (c.args.any fun t => !argOkB n t) = bb
        have HBB := Lib.hid hbb
        clear hbb
        go_wp2
        go_ret
        exact ⟨ret_bool (by rw [hf.out, HBB.out]), hB3⟩
end Go.Proofs.Ytddjhneoacnkgaa
