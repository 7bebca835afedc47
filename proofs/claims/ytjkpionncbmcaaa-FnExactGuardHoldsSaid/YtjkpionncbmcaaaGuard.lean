/-
  Contracts of the two functions GuardHolds. Conditions: none.
-/
import Derived.Test.YtjkpionncbmcaaaBd
import Derived.Test.YtjkpionncbmcaaaGd
import Derived.Test.YtjkpionncbmcaaaChecked
import Derived.BigQuiet
import Derived.Deep.QuietTactic
namespace Go.Proofs.Ytjkpionncbmcaaa
open Go.RowKit

def gtest (g : Gd) (v : V) : Bool := (v.c == -1) && ((g.op == 1 && decide (v.n < g.n)) || (g.op == 2 && v.n == g.n))
def guardHolds (g : Gd) (xs : List Bd) : Bool := if g.op = 0 then true else match xs.find? fun b => b.var == g.va with
  | some b => gtest g b.val
  | none => false
theorem gtest_ways (g : Gd) (v : V) : (gtest g v = false ∧ (v.c == -1) = false ∧ (v.c != -1) = true) ∨ (gtest g v = true ∧ (v.c == -1) = true ∧ (v.c != -1) = false ∧ (g.op == 1) = true ∧ decide (v.n < g.n) = true ∧ (g.op == 2) = false) ∨ (gtest g v = false ∧ (v.c == -1) = true ∧ (v.c != -1) = false ∧ (g.op == 1) = true ∧ decide (v.n < g.n) = false ∧ (g.op == 2) = false) ∨ (gtest g v = true ∧ (v.c == -1) = true ∧ (v.c != -1) = false ∧ (g.op == 1) = false ∧ (g.op == 2) = true ∧ (v.n == g.n) = true) ∨ (gtest g v = false ∧ (v.c == -1) = true ∧ (v.c != -1) = false ∧ (g.op == 1) = false ∧ (g.op == 2) = true ∧ (v.n == g.n) = false) ∨ (gtest g v = false ∧ (v.c == -1) = true ∧ (v.c != -1) = false ∧ (g.op == 1) = false ∧ (g.op == 2) = false) := by
  unfold gtest
  by_cases hc : v.c = -1
  · by_cases h1 : g.op = 1
    · have h2 : (g.op == 2) = false := by rw [h1]; rfl
      by_cases hl : v.n < g.n
      · refine .inr (.inl ?_); simp [hc, h1, hl]
      · refine .inr (.inr (.inl ?_)); simp [hc, h1, hl]
    · by_cases h2 : g.op = 2
      · by_cases he : v.n = g.n
        · refine .inr (.inr (.inr (.inl ?_))); simp [hc, h2, he]
        · refine .inr (.inr (.inr (.inr (.inl ?_)))); simp [hc, h2, he]
      · refine .inr (.inr (.inr (.inr (.inr ?_)))); simp [hc, h1, h2]
  · refine .inl ?_; simp [hc]
theorem guardHolds_hit {g : Gd} {xs : List Bd} {k : Nat} (h0 : (g.op == 0) = false) (h : FirstAt (fun b : Bd => b.var == g.va) xs k) : ∃ hk : k < xs.length, guardHolds g xs = gtest g xs[k].val := by
  obtain ⟨hk, hf⟩ := h.find
  exact ⟨hk, by unfold guardHolds; rw [if_neg (by simpa using h0), hf]⟩
theorem guardHolds_miss {g : Gd} {xs : List Bd} (h0 : (g.op == 0) = false) (h : FirstAt (fun b : Bd => b.var == g.va) xs (-1)) : guardHolds g xs = false := by
  unfold guardHolds; rw [if_neg (by simpa using h0), h.find_none]
theorem guardHolds_none {g : Gd} {xs : List Bd} (h0 : g.op = 0) : guardHolds g xs = true := by
  unfold guardHolds; rw [if_pos h0]

set_option maxRecDepth 100000 in
set_option maxHeartbeats 1600000 in
theorem spec_GuardHolds (g : Gd) (xs : List Bd) (w : World) (F : List Nat) (x : Value) (hx : Arr w (BdR w) xs x F) (hF : Under w.heap.size F) :
    Calls Try.prog 27 #[.agg #[.int .i64 g.op, .int .i64 g.va, .int .i64 g.n], x] w fun e w' => e = .returned (.bool (guardHolds g xs)) ∧ Below w.heap.size w w' := by
  have HX := Lib.hid hx
  obtain ⟨A, cap, rfl, hl, hm⟩ := hx.form
  clear hx
  have HF := Lib.hid hF
  clear hF
  by_cases h0 : g.op = 0
  · have h0' : (g.op == 0) = true := by simpa using h0
    have hf := Lib.hid (guardHolds_none (xs := xs) h0)
    clear h0
    go_enter Try.func27, Try.ntmps27
    go_wp2
    go_ret
    exact ⟨ret_bool hf.out.symm, (Below.refl _ _).alloc (Nat.le_refl _) _⟩
  · have h0' : (g.op == 0) = false := by simpa using h0
    clear h0
    obtain ⟨r, hr⟩ := FirstAt.ex (fun b : Bd => b.var == g.va) xs
    have HR := Lib.hid hr
    clear hr
    go_enter Try.func27, Try.ntmps27
    go_wp2
    obtain ⟨W1, hW⟩ : ∃ X, X = w.alloc (.cells #[.int .i64 g.op, .int .i64 g.va, .int .i64 g.n] 52) := ⟨_, rfl⟩
    have hB1 : Below w.heap.size w W1 := by rw [hW]; exact (Below.refl _ _).alloc (Nat.le_refl _) _
    have bx : Hid (Blk W1 w.heap.size 52 #[.int .i64 g.op, .int .i64 g.va, .int .i64 g.n]) := by rw [hW]; exact Blk.new _ _ _
    rw [← hW]
    clear hW
    go_loopw [5] (fun i wr => ∃ k : Nat, k ≤ xs.length ∧ i = .int .i64 k ∧ Hid (∀ j (hj : j < xs.length), j < k → (xs[j].var == g.va) = false) ∧ Below W1.heap.size W1 wr) (fun i _ => xs.length - (intOf i).toNat)
    case atStart => exact ⟨0, Nat.zero_le _, rfl, fun j _ h => by omega, Below.refl _ _⟩
    case round =>
      obtain ⟨k, hk, rfl, HM, hb1⟩ := hrel
      have hB := hB1.trans (hb1.mono hB1.size)
      have bw := bx.out.same (hb1.block _ bx.out.lt)
      have x0 : wr.cell? ⟨w.heap.size, 0, none⟩ = some (.int .i64 g.op) := (bw.cell 0).trans (by simp)
      have x1 : wr.cell? ⟨w.heap.size, 1, none⟩ = some (.int .i64 g.va) := (bw.cell 1).trans (by simp)
      have x2 : wr.cell? ⟨w.heap.size, 2, none⟩ = some (.int .i64 g.n) := (bw.cell 2).trans (by simp)
      clear bw
      by_cases hlt : k < xs.length
      · have hi0 : (0 : Int) ≤ (k : Int) := by omega
        have hi1 : (k : Int) < (xs.length : Int) := by omega
        obtain ⟨b, off, cs, G, rfl, hb, hcs, hv, hG⟩ := HX.out.get BdR_len hlt
        have hbl := HF.out b hb
        have hGF := HF.out.sub hG
        have hv1 := hv.below hB hGF
        have hcs1 := hcs.same (hB.block b hbl)
        obtain ⟨A1, cap1, rfl⟩ := BdR_form hv
        have c0 := hcs1 0 _ rfl
        have c1 := hcs1 1 _ rfl
        have c2 := hcs1 2 _ rfl
        have c3 := hcs1 3 _ rfl
        simp only [Nat.add_zero] at c0
        clear hcs hcs1 hv hG
        have HV := Lib.hid hv1
        clear hv1
        have HG := Lib.hid hGF
        clear hGF
        cases hva : (xs[k].var == g.va) with
        | false =>
          have hne : (xs[k].var != g.va) = true := by rw [bne, hva]; rfl
          have hM2 : Hid (∀ j (hj : j < xs.length), j < k + 1 → (xs[j].var == g.va) = false) := fun j hj h => by
            rcases Nat.lt_or_ge j k with h1 | h1
            · exact HM.out j hj h1
            · obtain rfl : j = k := by omega
              exact hva
          go_wp2_with fail
          go_quiet (fail)
          go_wp2
          go_roundw
          case rel => exact ⟨k + 1, by omega, by go_num, hM2, below_drewN hb1 _⟩
          case measure => simp [intOf]; omega
        | true =>
          have hne : (xs[k].var != g.va) = false := by rw [bne, hva]; rfl
          have hrk := HR.out.hit hlt hva HM.out
          have hr2 := HR.out
          rw [hrk] at hr2
          obtain ⟨hk0, hgh⟩ := guardHolds_hit h0' hr2
          clear hr2 hrk
          have HGH := Lib.hid hgh
          clear hgh
          have hBd := fun n => below_drewN hB n
          have HBd := Lib.hid hBd
          clear hBd
          rcases gtest_ways g xs[k].val with ⟨HGT, hc0, hc1⟩ | ⟨HGT, hc0, hc1, ho1, hl, ho2⟩ | ⟨HGT, hc0, hc1, ho1, hl, ho2⟩ | ⟨HGT, hc0, hc1, ho1, ho2, he⟩ | ⟨HGT, hc0, hc1, ho1, ho2, he⟩ | ⟨HGT, hc0, hc1, ho1, ho2⟩
          all_goals
            have hf := Lib.hid (HGH.out.trans HGT)
            clear HGT
            go_wp2_with fail
            go_quiet (fail)
            go_wp2
            go_ret
            exact ⟨ret_bool hf.out.symm, HBd.out _⟩
      · have hr2 := HR.out
        rw [hr2.miss (fun j hj => HM.out j hj (by omega))] at hr2
        have hf := Lib.hid (guardHolds_miss h0' hr2)
        clear hr2
        go_wp2
        go_ret
        exact ⟨ret_bool hf.out.symm, hB⟩

set_option maxHeartbeats 400000 in
theorem guard_closure (x : Bd) (w : World) (cs : List Value) (F : List Nat) (gb : Nat) (va : Int) (hv : BdR w x cs F) (hg : w.cell? ⟨gb, 1, none⟩ = some (.int .i64 va)) (hlt : gb < w.heap.size) :
    Calls Try.prog 49 #[.agg cs.toArray, .pointer (some ⟨gb, 0, none⟩)] w fun e w' => e = .returned (.bool (x.var == va)) ∧ Below w.heap.size w w' := by
  obtain ⟨A, cap, rfl⟩ := BdR_form hv
  clear hv
  cases hva : (x.var == va) with
  | false =>
    go_enter Try.func49, Try.ntmps49
    go_wp2
    go_ret
    exact ⟨rfl, (Below.refl _ _).alloc (Nat.le_refl _) _⟩
  | true =>
    go_enter Try.func49, Try.ntmps49
    go_wp2
    go_ret
    exact ⟨rfl, (Below.refl _ _).alloc (Nat.le_refl _) _⟩

set_option maxRecDepth 100000 in
set_option maxHeartbeats 800000 in
theorem IndexFunc_Bd (xs : List Bd) (w : World) (F : List Nat) (x : Value) (gb : Nat) (va r : Int) (hx : Arr w (BdR w) xs x F) (hF : Under w.heap.size F) (hg : w.cell? ⟨gb, 1, none⟩ = some (.int .i64 va)) (hgl : gb < w.heap.size)
    (hr : FirstAt (fun b : Bd => b.var == va) xs r) :
    Calls Try.prog 48 #[x, .func (.func 49) #[] #[.pointer (some ⟨gb, 0, none⟩)]] w fun e w' => e = .returned (.int .i64 r) ∧ Below w.heap.size w w' := by
  have HX := Lib.hid hx
  obtain ⟨A, cap, rfl, hl, hm⟩ := hx.form
  clear hx
  have HF := Lib.hid hF
  clear hF
  have HR := Lib.hid hr
  clear hr
  have HG0 := Lib.hid hg
  clear hg
  go_enter Try.func48, Try.ntmps48
  go_wp2
  go_loopw [8] (fun i wr => ∃ k : Nat, k ≤ xs.length ∧ i = .int .i64 k ∧ Hid (∀ j (hj : j < xs.length), j < k → (xs[j].var == va) = false) ∧ Below w.heap.size w wr) (fun i _ => xs.length - (intOf i).toNat)
  case atStart => exact ⟨0, Nat.zero_le _, rfl, fun j _ h => by omega, Below.refl _ _⟩
  case round =>
    obtain ⟨k, hk, rfl, HM, hB⟩ := hrel
    by_cases hlt : k < xs.length
    · have hi0 : (0 : Int) ≤ (k : Int) := by omega
      have hi1 : (k : Int) < (xs.length : Int) := by omega
      obtain ⟨b, off, cs, G, rfl, hb, hcs, hv, hG⟩ := HX.out.get BdR_len hlt
      have hbl := HF.out b hb
      have hGF := HF.out.sub hG
      have hv1 := hv.below hB hGF
      have hcs1 := hcs.same (hB.block b hbl)
      obtain ⟨A1, cap1, rfl⟩ := BdR_form hv
      have c0 := hcs1 0 _ rfl
      have c1 := hcs1 1 _ rfl
      have c2 := hcs1 2 _ rfl
      have c3 := hcs1 3 _ rfl
      simp only [Nat.add_zero] at c0
      clear hcs hcs1 hv hG
      have HV := Lib.hid hv1
      clear hv1
      have HG := Lib.hid hGF
      clear hGF
      go_wp2_with fail
      refine (guard_closure xs[k] wr _ G gb va HV.out ((hB.cell (p := ⟨gb, 1, none⟩) hgl).trans HG0.out) (Nat.lt_of_lt_of_le hgl hB.size)).mono ?_
      rintro e w' ⟨rfl, hB'⟩
      have hB2 := hB.trans (hB'.mono hB.size)
      cases hva : (xs[k].var == va) with
      | false =>
        have hM2 : Hid (∀ j (hj : j < xs.length), j < k + 1 → (xs[j].var == va) = false) := fun j hj h => by
          rcases Nat.lt_or_ge j k with h1 | h1
          · exact HM.out j hj h1
          · obtain rfl : j = k := by omega
            exact hva
        go_wp2
        go_roundw
        case rel => exact ⟨k + 1, by omega, by go_num, hM2, hB2⟩
        case measure => simp [intOf]; omega
      | true =>
        have hrk := Lib.hid (HR.out.hit hlt hva HM.out)
        go_wp2
        go_ret
        exact ⟨ret_int hrk.out.symm, hB2⟩
    · have hrk := Lib.hid (HR.out.miss (fun j hj => HM.out j hj (by omega)))
      go_wp2
      go_ret
      exact ⟨ret_int hrk.out.symm, hB⟩

set_option maxRecDepth 100000 in
set_option maxHeartbeats 1600000 in
theorem impl_GuardHolds (g : Gd) (xs : List Bd) (w : World) (F : List Nat) (x : Value) (hx : Arr w (BdR w) xs x F) (hF : Under w.heap.size F) :
    Calls Try.prog 30 #[.agg #[.int .i64 g.op, .int .i64 g.va, .int .i64 g.n], x] w fun e w' => e = .returned (.bool (guardHolds g xs)) ∧ Below w.heap.size w w' := by
  have HX := Lib.hid hx
  obtain ⟨A, cap, rfl, hl, hm⟩ := hx.form
  clear hx
  have HF := Lib.hid hF
  clear hF
  by_cases h0 : g.op = 0
  · have h0' : (g.op == 0) = true := by simpa using h0
    have hf := Lib.hid (guardHolds_none (xs := xs) h0)
    clear h0
    go_enter Try.func30, Try.ntmps30
    go_wp2
    go_ret
    exact ⟨ret_bool hf.out.symm, (Below.refl _ _).alloc (Nat.le_refl _) _⟩
  · have h0' : (g.op == 0) = false := by simpa using h0
    clear h0
    obtain ⟨r, hr⟩ := FirstAt.ex (fun b : Bd => b.var == g.va) xs
    have hrr := hr.range
    have HR := Lib.hid hr
    clear hr
    go_enter Try.func30, Try.ntmps30
    go_wp2_with fail
    obtain ⟨W1, hW⟩ : ∃ X, X = w.alloc (.cells #[.int .i64 g.op, .int .i64 g.va, .int .i64 g.n] 52) := ⟨_, rfl⟩
    have hB1 : Below w.heap.size w W1 := by rw [hW]; exact (Below.refl _ _).alloc (Nat.le_refl _) _
    have bx : Hid (Blk W1 w.heap.size 52 #[.int .i64 g.op, .int .i64 g.va, .int .i64 g.n]) := by rw [hW]; exact Blk.new _ _ _
    rw [← hW]
    clear hW
    refine (IndexFunc_Bd xs W1 F _ w.heap.size g.va r (ArrBd.below HX.out hB1 HF.out) (HF.out.mono hB1.size) ((bx.out.cell 1).trans (by simp)) bx.out.lt HR.out).mono ?_
    rintro e wr ⟨rfl, hb1⟩
    have hB := hB1.trans (hb1.mono hB1.size)
    have bw := bx.out.same (hb1.block _ bx.out.lt)
    have x0 : wr.cell? ⟨w.heap.size, 0, none⟩ = some (.int .i64 g.op) := (bw.cell 0).trans (by simp)
    have x1 : wr.cell? ⟨w.heap.size, 1, none⟩ = some (.int .i64 g.va) := (bw.cell 1).trans (by simp)
    have x2 : wr.cell? ⟨w.heap.size, 2, none⟩ = some (.int .i64 g.n) := (bw.cell 2).trans (by simp)
    clear bw
    by_cases hneg : r < 0
    · obtain rfl : r = -1 := by omega
      have hf := Lib.hid (guardHolds_miss h0' HR.out)
      clear hneg hrr
      go_wp2
      go_ret
      exact ⟨ret_bool hf.out.symm, hB⟩
    · obtain ⟨k, rfl⟩ := Int.eq_ofNat_of_zero_le (show 0 ≤ r by omega)
      obtain ⟨hlt, hgh⟩ := guardHolds_hit h0' HR.out
      have HGH := Lib.hid hgh
      clear hgh hneg hrr
      have hneg : ¬ (k : Int) < 0 := by omega
      have hi0 : (0 : Int) ≤ (k : Int) := by omega
      have hi1 : (k : Int) < (xs.length : Int) := by omega
      obtain ⟨b, off, cs, G, rfl, hb, hcs, hv, hG⟩ := HX.out.get BdR_len hlt
      have hbl := HF.out b hb
      have hGF := HF.out.sub hG
      have hv1 := hv.below hB hGF
      have hcs1 := hcs.same (hB.block b hbl)
      obtain ⟨A1, cap1, rfl⟩ := BdR_form hv
      have c0 := hcs1 0 _ rfl
      have c1 := hcs1 1 _ rfl
      have c2 := hcs1 2 _ rfl
      have c3 := hcs1 3 _ rfl
      simp only [Nat.add_zero] at c0
      clear hcs hcs1 hv hG
      have HV := Lib.hid hv1
      clear hv1
      have HG := Lib.hid hGF
      clear hGF
      rcases gtest_ways g xs[k].val with ⟨HGT, hc0, hc1⟩ | ⟨HGT, hc0, hc1, ho1, hl, ho2⟩ | ⟨HGT, hc0, hc1, ho1, hl, ho2⟩ | ⟨HGT, hc0, hc1, ho1, ho2, he⟩ | ⟨HGT, hc0, hc1, ho1, ho2, he⟩ | ⟨HGT, hc0, hc1, ho1, ho2⟩
      all_goals
        have hf := Lib.hid (HGH.out.trans HGT)
        clear HGT
        go_wp2
        go_ret
        exact ⟨ret_bool hf.out.symm, hB⟩
end Go.Proofs.Ytjkpionncbmcaaa
