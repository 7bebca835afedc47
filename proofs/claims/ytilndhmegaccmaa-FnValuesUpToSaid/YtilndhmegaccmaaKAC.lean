/-
  Lemmas and contracts of functions: The reader of drawn numbers. Conditions: it has given no more than a million. Slices of numbers. Conditions: none. Numbers and texts out of lists by the reader. Conditions: the reader has given no more than a million numbers. l1Twice of the reference: a name stands before. Conditions: the place lies in the world. What a valid world is, step by step, in plain Lean. Conditions: none. WorldValid of the reference. Conditions: none. ParseWorld of the reference. Conditions: the text is not longer than a million bytes. l1Texts, l1World of the reference: a drawn world. Conditions: the reader has given no more than 900000 numbers. l1Some of the reference: a drawn type. Conditions: the reader has given no more than 900000 numbers. What l1Mutate makes of its copy of a world, case by case. Conditions: the lists are short.
-/
import Derived.Test.YtilndhmegaccmaaKAA
import Derived.Test.YtilndhmegaccmaaChecked
import Derived.Laws.BitsAllLaws
import Derived.IntWalk
import Derived.Deep.RegionWith
import Derived.Deep.QuietTactic
import Derived.BigQuiet
import Derived.Test.YtilndhmegaccmaaKAB

set_option linter.unusedVariables false
set_option linter.unusedSimpArgs false

namespace Go.Proofs.Ytilndhmegaccmaa
open Go.RowKit

def ByR (_ : World) (x : Int) (cs : List Value) (F : List Nat) : Prop := cs = [.int .u8 x] ∧ F = [] ∧ 0 ≤ x ∧ x ≤ 255
theorem ByR_len (w : World) (x : Int) (cs : List Value) (F : List Nat) (h : ByR w x cs F) : cs.length = 1 := by rw [h.1]; rfl
theorem ArrBy.mono {w w' : World} {vs : List Int} {x : Value} {F : List Nat} (h : Arr w (ByR w) vs x F) (hF : Kept F w w') : Arr w' (ByR w') vs x F := h.mono hF fun v _ cs G _ h => h
theorem ArrBy.at {w : World} {b off n cap : Nat} {F : List Nat} {xs : List Int} (h : Arr w (ByR w) xs (.slice (some ⟨b, off, none⟩) n cap) F) (hF : Under w.heap.size F) (i : Nat) (hi : i < xs.length) :
    b < w.heap.size ∧ b ∈ F ∧ w.cell? ⟨b, off + i, none⟩ = some (.int .u8 xs[i]) ∧ 0 ≤ xs[i] ∧ xs[i] ≤ 255 := by
  obtain ⟨b', off', cs, G, e, hb, hcs, hv, hG⟩ := h.get (ByR_len w) hi
  cases e
  obtain ⟨rfl, -, h0, h1⟩ := hv
  have := hcs 0 _ rfl
  simp only [Nat.mul_one, Nat.add_zero] at this
  exact ⟨hF _ hb, hb, this, h0, h1⟩
theorem Arr.take {α : Type} {w : World} {R : α → List Value → List Nat → Prop} {xs : List α} {A : Option Addr} {n cap : Nat} {F : List Nat} (h : Arr w R xs (.slice A n cap) F) (m : Nat) (hm : m ≤ xs.length) (hm0 : 0 < m) : ∃ G, Arr w R (xs.take m) (.slice A m cap) G ∧ ∀ b ∈ G, b ∈ F := by
  obtain ⟨A', cap', hv, h1, h2, h3⟩ := h
  cases hv
  have hl : (xs.take m).length = m := by rw [List.length_take]; omega
  rcases h3 with ⟨rfl, -⟩ | ⟨b, off, cs, G, rfl, hc, hf, rfl⟩
  · simp at hm; omega
  · have hxs : xs = xs.take m ++ xs.drop m := (List.take_append_drop m xs).symm
    rw [hxs] at hf
    obtain ⟨c1, c2, F1, F2, rfl, rfl, g1, g2⟩ := Flat.split (xs.take m) hf
    exact ⟨b :: F1, ⟨_, cap, by rw [hl], by rw [hl]; omega, h2, .inr ⟨b, off, c1, F1, rfl, hc.left, g1, rfl⟩⟩, fun x hx => by
      rcases List.mem_cons.1 hx with h | h
      · simp [h]
      · simp [h]⟩
/-- the reader in block g: it has given p numbers -/
def Rd (w : World) (g p : Nat) : Prop := ∃ A cap bs F, Blk w g 127 #[.slice A bs.length cap, .int .i64 (p : Int)] ∧ Arr w (ByR w) bs (.slice A bs.length cap) F ∧ Under g F ∧ bs.length ≤ 2000
theorem Rd.lt {w : World} {g p : Nat} (h : Rd w g p) : g < w.heap.size := by obtain ⟨A, cap, bs, F, h1, -⟩ := h; exact h1.lt
theorem Rd.below {w w' : World} {g p : Nat} (h : Rd w g p) (hb : Below w.heap.size w w') : Rd w' g p := by
  obtain ⟨A, cap, bs, F, h1, h2, h3, h5⟩ := h
  exact ⟨A, cap, bs, F, h1.same (hb.block _ h1.lt), ArrBy.mono h2 (.of_below hb (h3.mono (Nat.le_of_lt h1.lt))), h3, h5⟩
theorem Rd.set {w : World} {g p b j : Nat} {u : Value} (h : Rd w g p) (hb : g < b) : Rd (w.setCell ⟨b, j, none⟩ u) g p := by
  obtain ⟨A, cap, bs, F, h1, h2, h3, h5⟩ := h
  exact ⟨A, cap, bs, F, h1.same (Below.heap_setCell _ _ _ _ (by show g ≠ b; omega)), ArrBy.mono h2 (fun c hc => Below.heap_setCell _ _ _ _ (by have := h3 c hc; show c ≠ b; omega)), h3, h5⟩
theorem Rd.drew {w : World} {g p : Nat} (h : Rd w g p) : Rd w.drew g p := h
theorem Rd.drewN {w : World} {g p : Nat} (h : Rd w g p) (n : Nat) : Rd (w.drewN n) g p := h
theorem Rd.chg {w w' : World} {g p : Nat} {F : List Nat} (h : Rd w g p) (hc : Chg F w w') (hF : ∀ b ∈ F, w.heap.size ≤ b) : Rd w' g p :=
  h.below ⟨hc.os, hc.tape, hc.output, hc.size, fun b hb => hc.block b hb (fun hf => Nat.lt_irrefl _ (Nat.lt_of_lt_of_le hb (hF b hf)))⟩
theorem i64_xor_nat (a b : Nat) (ha : a < 9223372036854775808) (hb : b < 9223372036854775808) : bits .xor .i64 (a : Int) (b : Int) = ((a ^^^ b : Nat) : Int) := by
  have hx : a ^^^ b < 2 ^ 63 := Nat.xor_lt_two_pow (by omega) (by omega)
  show IntKind.i64.wrap ((BitVec.ofInt 64 (a : Int) ^^^ BitVec.ofInt 64 (b : Int)).toNat : Int) = _
  rw [BitVec.toNat_xor, ofInt_u64 a (by omega), ofInt_u64 b (by omega)]
  exact IntWalk.i64_in _ (by omega)
set_option maxRecDepth 100000 in
set_option maxHeartbeats 1600000 in
theorem pick_any (n p g : Nat) (w : World) (h : Rd w g p) (hp : p ≤ 1000000) (hn : 1 ≤ n) (hn2 : n ≤ 1000000) :
    Calls Try.prog 51 #[.pointer (some ⟨g, 0, none⟩), .int .i64 (n : Int)] w fun e w' => ∃ r : Nat, e = .returned (.int .i64 (r : Int)) ∧ r < n ∧ Rd w' g (p + 1) ∧ Chg [g] w w' := by
  obtain ⟨A, cap, bs, F, hk, ha, hu, hbl⟩ := h
  have hf : Under w.heap.size F := hu.mono (Nat.le_of_lt hk.lt)
  have hg : g ∉ F := fun h => Nat.lt_irrefl _ (hu g h)
  have HU := Lib.hid hu
  clear hu
  have c0 : w.cell? ⟨g, 0, none⟩ = some (.slice A bs.length cap) := (hk.cell 0).trans (by simp)
  have c1 : w.cell? ⟨g, 1, none⟩ = some (.int .i64 (p : Int)) := (hk.cell 1).trans (by simp)
  have f1 := hk.frozen 1
  have hlt := hk.lt
  have HK := Lib.hid hk
  have HA := Lib.hid ha
  have HF := Lib.hid hf
  have HG := Lib.hid hg
  clear hk ha hf hg
  have t0 : decide ((n : Int) < 1) = false := decide_eq_false (by omega)
  have KR : Blk (w.setCell ⟨g, 1, none⟩ (.int .i64 ((p : Int) + 1))) g 127 #[.slice A bs.length cap, .int .i64 ((p : Int) + 1)] := HK.out.set_ 1 _
  have hCG : Chg [g] w (w.setCell ⟨g, 1, none⟩ (.int .i64 ((p : Int) + 1))) := (Chg.refl _ _).set (by simp)
  have hRd : Hid (Rd (w.setCell ⟨g, 1, none⟩ (.int .i64 ((p : Int) + 1))) g (p + 1)) := ⟨A, cap, bs, F, KR, ArrBy.mono HA.out (hCG.kept HF.out (fun b hb => by simp; intro e; exact HG.out (e ▸ hb))), HU.out, hbl⟩
  have HCG := Lib.hid hCG
  clear KR hCG
  by_cases hb0 : bs.length = 0
  · have t1 : ((bs.length : Int) == 0) = true := beq_iff_eq.2 (by omega)
    go_enter Try.func51, Try.ntmps51
    go_wp2
    go_ret
    exact ⟨0, rfl, by omega, hRd.out, HCG.out⟩
  · have t1 : ((bs.length : Int) == 0) = false := by rw [beq_eq_false_iff_ne]; omega
    obtain ⟨b, off, rfl⟩ := HA.out.ptr (by omega)
    by_cases hpl : p < bs.length
    · have t2 : decide ((p : Int) < (bs.length : Int)) = true := decide_eq_true (by omega)
      have g1 : (0 : Int) ≤ (p : Int) := by omega
      obtain ⟨hbw, hbF, x0, hx0, hx1⟩ := ArrBy.at HA.out HF.out p hpl
      have hbg : g ≠ b := fun e => HG.out (e ▸ hbF)
      generalize hX : bs[p] = X at *
      obtain ⟨Xn, rfl⟩ := Int.eq_ofNat_of_zero_le hx0
      have hw1 : IntKind.i64.wrap (Xn : Int) = (Xn : Int) := IntWalk.i64_in _ (by omega)
      clear hX
      go_enter Try.func51, Try.ntmps51
      go_wp2
      go_ret
      exact ⟨Xn % n, rfl, Nat.mod_lt _ (by omega), hRd.out, HCG.out⟩
    · have t2 : decide ((p : Int) < (bs.length : Int)) = false := decide_eq_false (by omega)
      obtain ⟨q1, hq1⟩ : ∃ q, q = p % bs.length := ⟨_, rfl⟩
      obtain ⟨q2, hq2⟩ : ∃ q, q = (p * 7 + 3) % bs.length := ⟨_, rfl⟩
      obtain ⟨q3, hq3⟩ : ∃ q, q = p / bs.length := ⟨_, rfl⟩
      have l1 : q1 < bs.length := by rw [hq1]; exact Nat.mod_lt _ (by omega)
      have l2 : q2 < bs.length := by rw [hq2]; exact Nat.mod_lt _ (by omega)
      have l3 : q3 ≤ 1000000 := by rw [hq3]; exact Nat.le_trans (Nat.div_le_self _ _) hp
      obtain ⟨hbw, hbF, x1, hx0, hx1⟩ := ArrBy.at HA.out HF.out q1 l1
      obtain ⟨-, -, x2, hy0, hy1⟩ := ArrBy.at HA.out HF.out q2 l2
      have hbg : g ≠ b := fun e => HG.out (e ▸ hbF)
      generalize hX : bs[q1] = X at *
      generalize hY : bs[q2] = Y at *
      obtain ⟨Xn, rfl⟩ := Int.eq_ofNat_of_zero_le hx0
      obtain ⟨Yn, rfl⟩ := Int.eq_ofNat_of_zero_le hy0
      have m1 : (p : Int).tmod (bs.length : Int) = (q1 : Int) := by rw [Int.tmod_eq_emod_of_nonneg (by omega), hq1]; rfl
      have m1' : (p : Int) % (bs.length : Int) = (q1 : Int) := by rw [hq1]; rfl
      have m2 : ((p : Int) * 7 + 3).tmod (bs.length : Int) = (q2 : Int) := by rw [Int.tmod_eq_emod_of_nonneg (by omega), hq2]; push_cast; rfl
      have m2' : ((p : Int) * 7 + 3) % (bs.length : Int) = (q2 : Int) := by rw [hq2]; push_cast; rfl
      have m3 : (p : Int).tdiv (bs.length : Int) = (q3 : Int) := by rw [hq3]; rfl
      have m3' : (p : Int) / (bs.length : Int) = (q3 : Int) := by rw [hq3]; rfl
      have n1 : (0 : Int) ≤ (q1 : Int) := by omega
      have n2 : (q1 : Int) < (bs.length : Int) := by omega
      have n3 : (0 : Int) ≤ (q2 : Int) := by omega
      have n4 : (q2 : Int) < (bs.length : Int) := by omega
      have n5 : (bs.length : Int) ≠ 0 := by omega
      have a1 : IntKind.i64.wrap ((Xn : Int) * 131) = (Xn : Int) * 131 := IntWalk.i64_in _ (by omega)
      have a2 : IntKind.i64.wrap ((p : Int) * 7) = (p : Int) * 7 := IntWalk.i64_in _ (by omega)
      have a3 : IntKind.i64.wrap ((p : Int) * 7 + 3) = (p : Int) * 7 + 3 := IntWalk.i64_in _ (by omega)
      have a4 : IntKind.i64.wrap ((Yn : Int) * 1117) = (Yn : Int) * 1117 := IntWalk.i64_in _ (by omega)
      have a5 : IntKind.i64.wrap ((Xn : Int) * 131 + (Yn : Int) * 1117) = (Xn : Int) * 131 + (Yn : Int) * 1117 := IntWalk.i64_in _ (by omega)
      have a6 : IntKind.i64.wrap ((p : Int) * 29) = (p : Int) * 29 := IntWalk.i64_in _ (by omega)
      have a7 : IntKind.i64.wrap ((Xn : Int) * 131 + (Yn : Int) * 1117 + (p : Int) * 29) = (Xn : Int) * 131 + (Yn : Int) * 1117 + (p : Int) * 29 := IntWalk.i64_in _ (by omega)
      have a8 : IntKind.i64.wrap (q3 : Int) = (q3 : Int) := IntWalk.i64_in _ (by omega)
      have a9 : IntKind.i64.wrap ((q3 : Int) * 53) = (q3 : Int) * 53 := IntWalk.i64_in _ (by omega)
      have aa : IntKind.i64.wrap ((Xn : Int) * 131 + (Yn : Int) * 1117 + (p : Int) * 29 + (q3 : Int) * 53) = (Xn : Int) * 131 + (Yn : Int) * 1117 + (p : Int) * 29 + (q3 : Int) * 53 := IntWalk.i64_in _ (by omega)
      have ab : IntKind.i64.wrap (Xn : Int) = (Xn : Int) := IntWalk.i64_in _ (by omega)
      have ac : IntKind.i64.wrap (Yn : Int) = (Yn : Int) := IntWalk.i64_in _ (by omega)
      obtain ⟨T, hT⟩ : ∃ T : Nat, (Xn : Int) * 131 + (Yn : Int) * 1117 + (p : Int) * 29 + (q3 : Int) * 53 = (T : Int) := ⟨Xn * 131 + Yn * 1117 + p * 29 + q3 * 53, by push_cast; rfl⟩
      have hTl : T ≤ 1000000000 := by omega
      have hd : (T : Int).tdiv 64 = ((T / 64 : Nat) : Int) := rfl
      have hd' : (T : Int) / 64 = ((T / 64 : Nat) : Int) := rfl
      have hxr := i64_xor_nat T (T / 64) (by omega) (by omega)
      have hxw : IntKind.i64.wrap ((T / 64 : Nat) : Int) = ((T / 64 : Nat) : Int) := IntWalk.i64_in _ (by omega)
      clear hX hY hq1 hq2 hq3 hb0
      go_enter Try.func51, Try.ntmps51
      go_wp2_with fail
      have hxr2 : bits .xor .i64 (T : Int) ((T : Int) / 64) = ((T ^^^ (T / 64) : Nat) : Int) := hxr
      have hXl : T ^^^ (T / 64) < 2 ^ 40 := Nat.xor_lt_two_pow (by omega) (by omega)
      generalize hXe : T ^^^ (T / 64) = X at hxr hxr2 hXl
      have hXm : (X : Int).tmod (n : Int) = ((X % n : Nat) : Int) := rfl
      have hXw : IntKind.i64.wrap (X : Int) = (X : Int) := IntWalk.i64_in _ (by omega)
      clear hXe hxr hd hd' hxw
      go_quiet (fail)
      clear x1 x2 m1 m1' m2 m2' m3 m3' n1 n2 n3 n4 n5 a1 a2 a3 a4 a5 a6 a7 a8 a9 aa ab ac
      go_wp2
      go_ret
      exact ⟨X % n, rfl, Nat.mod_lt _ (by omega), hRd.out.drewN _, HCG.out.drewN _⟩
set_option maxRecDepth 100000 in
set_option maxHeartbeats 1600000 in
theorem spec_l17Open (bs : List Int) (w : World) (v : Value) (F : List Nat) (hx : Arr w (ByR w) bs v F) (hf : Under w.heap.size F) :
    Calls Try.prog 49 #[v] w fun e w' => ∃ g : Nat, e = .returned (.pointer (some ⟨g, 0, none⟩)) ∧ w.heap.size ≤ g ∧ Below w.heap.size w w' ∧ Rd w' g 0 := by
  obtain ⟨A, cap, rfl, hc1, hc2⟩ := hx.form
  have hbl : ∀ (A : Option Addr) (cap : Nat) (bs : List Int) (F : List Nat), Arr w (ByR w) bs (.slice A bs.length cap) F → Under w.heap.size F → bs.length ≤ 2000 → Rd (w.alloc (.cells #[.slice A bs.length cap, .int .i64 0] 127)) w.heap.size 0 := fun A cap bs F h1 h2 h3 =>
    ⟨A, cap, bs, F, Blk.new _ _ _, ArrBy.mono h1 (.of_below ((Below.refl _ _).alloc (Nat.le_refl _) _) h2), h2, h3⟩
  have HBL := Lib.hid hbl
  have HX := Lib.hid hx
  have HF := Lib.hid hf
  clear hx hf
  clear hbl
  by_cases hl : 2000 < bs.length
  · have t0 : decide ((bs.length : Int) > 2000) = true := decide_eq_true (by omega)
    obtain ⟨b, off, rfl⟩ := HX.out.ptr (by omega)
    obtain ⟨G, hG, hGF⟩ := HX.out.take 2000 (by omega) (by omega)
    have hlt : (bs.take 2000).length = 2000 := by rw [List.length_take]; omega
    have hr := HBL.out (some ⟨b, off, none⟩) cap (bs.take 2000) G (by rw [hlt]; exact hG) (HF.out.sub hGF) (by rw [hlt]; exact Nat.le_refl _)
    rw [hlt] at hr
    have HRD := Lib.hid hr
    have g1 : (2000 : Int) ≤ (bs.length : Int) := by omega
    have g2 : 2000 ≤ cap := by omega
    clear hr hG hlt
    go_enter Try.func49, Try.ntmps49
    go_wp2
    go_ret
    exact ⟨w.heap.size, rfl, Nat.le_refl _, (Below.refl _ _).alloc (Nat.le_refl _) _, HRD.out⟩
  · have t0 : decide ((bs.length : Int) > 2000) = false := decide_eq_false (by omega)
    have HRD := Lib.hid (HBL.out _ _ _ F HX.out HF.out (by omega))
    go_enter Try.func49, Try.ntmps49
    go_wp2
    go_ret
    exact ⟨w.heap.size, rfl, Nat.le_refl _, (Below.refl _ _).alloc (Nat.le_refl _) _, HRD.out⟩
end Go.Proofs.Ytilndhmegaccmaa

namespace Go.Proofs.Ytilndhmegaccmaa
open Go.RowKit

theorem ArrNat.at {w0 w : World} {b off n cap : Nat} {F : List Nat} {xs : List Int} (h : Arr w0 (NatR w0) xs (.slice (some ⟨b, off, none⟩) n cap) F) (hF : Under w0.heap.size F) (hB : Below w0.heap.size w0 w) (i : Nat) (hi : i < xs.length) :
    b < w.heap.size ∧ w.cell? ⟨b, off + i, none⟩ = some (.int .i64 xs[i]) := by
  obtain ⟨b', off', cs, G, e, hb, hcs, hv, hG⟩ := h.get (NatR_len _) hi
  cases e
  have hbl := hF _ hb
  have hc := hcs.same (hB.block _ hbl)
  obtain ⟨rfl, -⟩ := hv
  have := hc 0 _ rfl
  rw [Nat.mul_one] at this
  exact ⟨Nat.lt_of_lt_of_le hbl hB.size, this⟩
theorem ArrNat.below {w w' : World} {B : Nat} {vs : List Int} {x : Value} {F : List Nat} (h : Arr w (NatR w) vs x F) (hb : Below B w w') (hF : Under B F) : Arr w' (NatR w') vs x F := h.mono (.of_below hb hF) fun v _ cs G hk h => NatR_mono _ _ v cs G hk h
theorem ArrNat.kept {w w' : World} {vs : List Int} {x : Value} {F : List Nat} (h : Arr w (NatR w) vs x F) (hF : Kept F w w') : Arr w' (NatR w') vs x F := h.mono hF fun v _ cs G hk h => NatR_mono _ _ v cs G hk h
theorem ArrNat.drew {w : World} {vs : List Int} {x : Value} {F : List Nat} (h : Arr w (NatR w) vs x F) : Arr w.drew (NatR w.drew) vs x F := ArrNat.kept (w := w) h (fun _ _ => rfl)
end Go.Proofs.Ytilndhmegaccmaa

namespace Go.Proofs.Ytilndhmegaccmaa
open Go.RowKit

set_option maxRecDepth 100000 in
set_option maxHeartbeats 1600000 in
theorem num_any (ls : List Int) (hl1 : 1 ≤ ls.length) (hl2 : ls.length ≤ 1000) (p g : Nat) (w : World) (h : Rd w g p) (hp : p ≤ 1000000) (v : Value) (F : List Nat) (hx : Arr w (NatR w) ls v F) (hf : Under w.heap.size F) (hg : g ∉ F) :
    Calls Try.prog 73 #[.pointer (some ⟨g, 0, none⟩), v] w fun e w' => ∃ x, x ∈ ls ∧ e = .returned (.int .i64 x) ∧ Rd w' g (p + 1) ∧ Chg [g] w w' := by
  obtain ⟨A, cap, rfl, hc1, hc2⟩ := hx.form
  obtain ⟨b, off, rfl⟩ := hx.ptr (by omega)
  have HX := Lib.hid hx
  have HF := Lib.hid hf
  have HG := Lib.hid hg
  have HCALL := Lib.hid (pick_any ls.length p g w h hp hl1 (by omega))
  clear hx hf hg h
  go_enter Try.func73, Try.ntmps73
  go_wp2_with fail
  refine HCALL.out.mono ?_
  rintro e w' ⟨r, rfl, hr, hR, hC⟩
  obtain ⟨hb, c0⟩ := ArrNat.at HX.out HF.out (Below.refl _ _) r hr
  have hbF : b ∉ [g] := by
    obtain ⟨b', off', cs', G', e', hb', -⟩ := HX.out.get (NatR_len w) hr
    cases e'
    exact fun h => HG.out (by rw [← List.mem_singleton.1 h]; exact hb')
  have c1 : w'.cell? ⟨b, off + r, none⟩ = some (.int .i64 ls[r]) := (hC.cell hb hbF).trans c0
  have g1 : (0 : Int) ≤ (r : Int) := by omega
  have g2 : (r : Int) < (ls.length : Int) := by omega
  have HR := Lib.hid hR
  have HC := Lib.hid hC
  have HM := Lib.hid (List.getElem_mem hr)
  clear hR hC c0 HCALL
  go_wp2
  go_ret
  exact ⟨ls[r], HM.out, rfl, HR.out, HC.out⟩
set_option maxRecDepth 100000 in
set_option maxHeartbeats 1600000 in
theorem of_any (ls : List ByteArray) (hl1 : 1 ≤ ls.length) (hl2 : ls.length ≤ 1000) (p g : Nat) (w : World) (h : Rd w g p) (hp : p ≤ 1000000) (v : Value) (F : List Nat) (hx : Arr w (StrR w) ls v F) (hf : Under w.heap.size F) (hg : g ∉ F) :
    Calls Try.prog 101 #[.pointer (some ⟨g, 0, none⟩), v] w fun e w' => ∃ x, x ∈ ls ∧ e = .returned (.string x) ∧ Rd w' g (p + 1) ∧ Chg [g] w w' := by
  obtain ⟨A, cap, rfl, hc1, hc2⟩ := hx.form
  obtain ⟨b, off, rfl⟩ := hx.ptr (by omega)
  have HX := Lib.hid hx
  have HF := Lib.hid hf
  have HG := Lib.hid hg
  have HCALL := Lib.hid (pick_any ls.length p g w h hp hl1 (by omega))
  clear hx hf hg h
  go_enter Try.func101, Try.ntmps101
  go_wp2_with fail
  refine HCALL.out.mono ?_
  rintro e w' ⟨r, rfl, hr, hR, hC⟩
  obtain ⟨hb, c0⟩ := ArrStr.at HX.out HF.out (Below.refl _ _) r hr
  have hbF : b ∉ [g] := by
    obtain ⟨b', off', cs', G', e', hb', -⟩ := HX.out.get (StrR_len w) hr
    cases e'
    exact fun h => HG.out (by rw [← List.mem_singleton.1 h]; exact hb')
  have c1 : w'.cell? ⟨b, off + r, none⟩ = some (.string ls[r]) := (hC.cell hb hbF).trans c0
  have g1 : (0 : Int) ≤ (r : Int) := by omega
  have g2 : (r : Int) < (ls.length : Int) := by omega
  have HR := Lib.hid hR
  have HC := Lib.hid hC
  have HM := Lib.hid (List.getElem_mem hr)
  clear hR hC c0 HCALL
  go_wp2
  go_ret
  exact ⟨ls[r], HM.out, rfl, HR.out, HC.out⟩

theorem lit_nums (w : World) (ls : List Int) (hl : ls.length ≤ 1000) : Arr (w.alloc (.cells (ls.map (Value.int .i64)).toArray 3)) (NatR (w.alloc (.cells (ls.map (Value.int .i64)).toArray 3))) ls (.slice (some ⟨w.heap.size, 0, none⟩) ls.length ls.length) [w.heap.size] := by
  refine ⟨_, _, rfl, Nat.le_refl _, by unfold maxLen; omega, .inr ⟨w.heap.size, 0, ls.map (Value.int .i64), [], rfl, fun j u hj => ?_, ?_, rfl⟩⟩
  · rw [Nat.zero_add]
    refine ((Blk.new w 3 (ls.map (Value.int .i64)).toArray).cell j).trans ?_
    simpa using hj
  · clear hl
    induction ls with
    | nil => exact ⟨rfl, rfl⟩
    | cons x xs ih => exact ⟨[.int .i64 x], xs.map (Value.int .i64), [], [], rfl, rfl, ⟨rfl, rfl⟩, ih⟩
theorem lit_strs (w : World) (ls : List ByteArray) (hl : ls.length ≤ 1000) : Arr (w.alloc (.cells (ls.map Value.string).toArray 9)) (StrR (w.alloc (.cells (ls.map Value.string).toArray 9))) ls (.slice (some ⟨w.heap.size, 0, none⟩) ls.length ls.length) [w.heap.size] := by
  refine ⟨_, _, rfl, Nat.le_refl _, by unfold maxLen; omega, .inr ⟨w.heap.size, 0, ls.map Value.string, [], rfl, fun j u hj => ?_, ?_, rfl⟩⟩
  · rw [Nat.zero_add]
    refine ((Blk.new w 9 (ls.map Value.string).toArray).cell j).trans ?_
    simpa using hj
  · clear hl
    induction ls with
    | nil => exact ⟨rfl, rfl⟩
    | cons x xs ih => exact ⟨[.string x], xs.map Value.string, [], [], rfl, rfl, ⟨rfl, rfl⟩, ih⟩
/-- a number out of a list that is written out at the call -/
theorem num_lit (ls : List Int) (hl1 : 1 ≤ ls.length) (hl2 : ls.length ≤ 1000) (p g : Nat) (w : World) (h : Rd w g p) (hp : p ≤ 1000000) :
    Calls Try.prog 73 #[.pointer (some ⟨g, 0, none⟩), .slice (some ⟨w.heap.size, 0, none⟩) ls.length ls.length] (w.alloc (.cells (ls.map (Value.int .i64)).toArray 3)) fun e w' => ∃ x, x ∈ ls ∧ e = .returned (.int .i64 x) ∧ Rd w' g (p + 1) ∧ Chg [g] w w' := by
  have hb : Below w.heap.size w (w.alloc (.cells (ls.map (Value.int .i64)).toArray 3)) := (Below.refl _ _).alloc (Nat.le_refl _) _
  have hlt := h.lt
  refine (num_any ls hl1 hl2 p g _ (h.below hb) hp _ _ (lit_nums w ls hl2) (fun b hb => by rw [List.mem_singleton.1 hb]; simp) (fun e => by rw [List.mem_singleton] at e; omega)).mono ?_
  rintro e w' ⟨x, hx, rfl, hR, hC⟩
  exact ⟨x, hx, rfl, hR, (Chg.of_below hb).trans hC⟩
theorem of_lit (ls : List ByteArray) (hl1 : 1 ≤ ls.length) (hl2 : ls.length ≤ 1000) (p g : Nat) (w : World) (h : Rd w g p) (hp : p ≤ 1000000) :
    Calls Try.prog 101 #[.pointer (some ⟨g, 0, none⟩), .slice (some ⟨w.heap.size, 0, none⟩) ls.length ls.length] (w.alloc (.cells (ls.map Value.string).toArray 9)) fun e w' => ∃ x, x ∈ ls ∧ e = .returned (.string x) ∧ Rd w' g (p + 1) ∧ Chg [g] w w' := by
  have hb : Below w.heap.size w (w.alloc (.cells (ls.map Value.string).toArray 9)) := (Below.refl _ _).alloc (Nat.le_refl _) _
  have hlt := h.lt
  refine (of_any ls hl1 hl2 p g _ (h.below hb) hp _ _ (lit_strs w ls hl2) (fun b hb => by rw [List.mem_singleton.1 hb]; simp) (fun e => by rw [List.mem_singleton] at e; omega)).mono ?_
  rintro e w' ⟨x, hx, rfl, hR, hC⟩
  exact ⟨x, hx, rfl, hR, (Chg.of_below hb).trans hC⟩
end Go.Proofs.Ytilndhmegaccmaa

namespace Go.Proofs.Ytilndhmegaccmaa
open Go.RowKit

/-- a name stands before: s (of a data type) among those of pre, or c (of a constructor) among those of pre's and cs' constructors -/
def ctorNames (pre : List Dt) : List ByteArray := pre.flatMap fun x => x.ctors.map Kt.name
def twiceB (pre : List Dt) (cs : List Kt) (s c : ByteArray) : Bool := nameIn (pre.map Dt.name) s || nameIn (ctorNames pre ++ cs.map Kt.name) c
theorem nameIn_snoc (l : List ByteArray) (x s : ByteArray) : nameIn (l ++ [x]) s = (nameIn l s || (x.toList == s.toList)) := by simp [nameIn]
theorem nameIn_append (l m : List ByteArray) (s : ByteArray) : nameIn (l ++ m) s = (nameIn l s || nameIn m s) := by simp [nameIn]
theorem nameIn_mem {l : List ByteArray} {x s : ByteArray} (h : x ∈ l) (e : (x.toList == s.toList) = true) : nameIn l s = true := by
  unfold nameIn; rw [List.any_eq_true]; exact ⟨x, h, e⟩
theorem ctorNames_snoc (l : List Dt) (x : Dt) : ctorNames (l ++ [x]) = ctorNames l ++ x.ctors.map Kt.name := by simp [ctorNames]
def MissD (xs : List Dt) (s c : ByteArray) (i : Nat) : Prop := nameIn ((xs.take i).map Dt.name) s = false ∧ nameIn (ctorNames (xs.take i)) c = false
theorem MissD.snoc {xs : List Dt} {s c : ByteArray} {i : Nat} (h : MissD xs s c i) (hi : i < xs.length) (h1 : (xs[i].name.toList == s.toList) = false) (h2 : nameIn (xs[i].ctors.map Kt.name) c = false) : MissD xs s c (i + 1) := by
  unfold MissD
  rw [take_snoc' xs i hi, List.map_append, List.map_cons, List.map_nil, nameIn_snoc, ctorNames_snoc, nameIn_append, h.1, h.2, h1, h2]
  exact ⟨rfl, rfl⟩
theorem twice_hitD {xs : List Dt} {cs : List Kt} {s c : ByteArray} {i d : Nat} (hi : i < xs.length) (hd : i < d) (h1 : (xs[i].name.toList == s.toList) = true) : twiceB (xs.take d) cs s c = true := by
  unfold twiceB
  rw [nameIn_mem (List.mem_map_of_mem (List.mem_take_iff_getElem.2 ⟨i, by omega, rfl⟩)) h1]; rfl
theorem twice_hitC {xs : List Dt} {cs : List Kt} {s c : ByteArray} {i j d : Nat} (hi : i < xs.length) (hd : i < d) (hj : j < xs[i].ctors.length) (h1 : (xs[i].ctors[j].name.toList == c.toList) = true) : twiceB (xs.take d) cs s c = true := by
  unfold twiceB
  rw [nameIn_append, nameIn_mem (l := ctorNames (xs.take d)) (x := xs[i].ctors[j].name) (List.mem_flatMap.2 ⟨xs[i], List.mem_take_iff_getElem.2 ⟨i, by omega, rfl⟩, List.mem_map_of_mem (List.getElem_mem hj)⟩) h1, Bool.true_or, Bool.or_true]
theorem twice_hitK {pre : List Dt} {ks : List Kt} {s c : ByteArray} {j k : Nat} (hj : j < ks.length) (hk : j < k) (h1 : (ks[j].name.toList == c.toList) = true) : twiceB pre (ks.take k) s c = true := by
  unfold twiceB
  rw [nameIn_append, nameIn_mem (l := (ks.take k).map Kt.name) (List.mem_map_of_mem (List.mem_take_iff_getElem.2 ⟨j, by omega, rfl⟩)) h1, Bool.or_true, Bool.or_true]
theorem twice_miss {xs : List Dt} {cs : List Kt} {s c : ByteArray} {d : Nat} (h : MissD xs s c d) (h1 : nameIn (cs.map Kt.name) c = false) : twiceB (xs.take d) cs s c = false := by
  unfold twiceB
  rw [nameIn_append, h.1, h.2, h1]; rfl
def MissK (ks : List Kt) (c : ByteArray) (j : Nat) : Prop := nameIn ((ks.take j).map Kt.name) c = false
theorem MissK.snoc {ks : List Kt} {c : ByteArray} {j : Nat} (h : MissK ks c j) (hj : j < ks.length) (h1 : (ks[j].name.toList == c.toList) = false) : MissK ks c (j + 1) := by
  unfold MissK
  rw [take_snoc' ks j hj, List.map_append, List.map_cons, List.map_nil, nameIn_snoc, h1, Bool.or_false]
  exact h
theorem MissK.all {ks : List Kt} {c : ByteArray} {j : Nat} (h : MissK ks c j) (hj : ks.length ≤ j) : nameIn (ks.map Kt.name) c = false := by
  unfold MissK at h
  rwa [List.take_of_length_le hj] at h
set_option maxRecDepth 100000 in
set_option maxHeartbeats 1600000 in
theorem spec_l1Twice (xs : List Dt) (d k : Nat) (hd : d < xs.length) (hk : k < xs[d].ctors.length) (w : World) (v : Value) (F : List Nat) (hx : Arr w (DtR w) xs v F) (hf : Under w.heap.size F) :
    Calls Try.prog 139 #[v, .int .i64 d, .int .i64 k] w fun e w' => e = .returned (.bool (twiceB (xs.take d) (xs[d].ctors.take k) xs[d].name xs[d].ctors[k].name)) ∧ Below w.heap.size w w' := by
  obtain ⟨A, cap, rfl, hc1, hc2⟩ := hx.form
  obtain ⟨b, off, rfl⟩ := hx.ptr (by omega)
  have HX := Lib.hid hx
  have HF := Lib.hid hf
  clear hx hf
  go_enter Try.func139, Try.ntmps139
  go_wp2
  go_loopw [7] (fun iv wr => ∃ i : Nat, i ≤ d + 1 ∧ iv = .int .i64 i ∧ Hid ((i ≤ d → MissD xs xs[d].name xs[d].ctors[k].name i) ∧ (i = d + 1 → twiceB (xs.take d) (xs[d].ctors.take k) xs[d].name xs[d].ctors[k].name = false)) ∧ Below w.heap.size w wr) (fun iv _ => d + 1 - (intOf iv).toNat)
  case atStart => exact ⟨0, Nat.zero_le _, rfl, ⟨fun _ => ⟨rfl, rfl⟩, fun h => by omega⟩, Below.refl _ _⟩
  case round =>
    obtain ⟨i, hi, rfl, HR, hB⟩ := hrel
    have HBQ := Lib.hid (fun n => below_drewN hB n)
    by_cases hid : i < d
    · have hil : i < xs.length := by omega
      have HM := Lib.hid (HR.out.1 (by omega))
      obtain ⟨Ai, capi, Gi, hbi, i0, i1, HI, HGi, -, -, -⟩ := ArrDt.at HX.out HF.out hB i hil
      obtain ⟨Ad, capd, Gd, hbd, d0, d1, HD, HGd, -, -, -⟩ := ArrDt.at HX.out HF.out hB d hd
      have g5 : (0 : Int) ≤ (i : Int) := by omega
      have g6 : (i : Int) < (xs.length : Int) := by omega
      have g7 : (0 : Int) ≤ (d : Int) := by omega
      have g8 : (d : Int) < (xs.length : Int) := by omega
      have hdec : decide (i < d) = true := by simpa using hid
      cases e0 : (xs[i].name.toList == xs[d].name.toList) with
      | true =>
        have hf := Lib.hid (twice_hitD (cs := xs[d].ctors.take k) (c := xs[d].ctors[k].name) hil hid e0)
        go_wp2_with fail
        go_quiet (fail)
        go_wp2
        go_ret
        exact ⟨ret_bool hf.out.symm, HBQ.out _⟩
      | false =>
        go_wp2_with fail
        go_quiet (fail)
        have HE0 := Lib.hid e0
        clear e0 i0 i1 d0 d1 HI HGi HD HGd hbi hbd hB
        go_wp2
        obtain ⟨wo, hwo⟩ : ∃ wo : World, wo = wr := ⟨_, rfl⟩
        go_loopw [8] (fun jv ws => ∃ j : Nat, j ≤ xs[i].ctors.length ∧ jv = .int .i64 j ∧ Hid (MissK xs[i].ctors xs[d].ctors[k].name j) ∧ Below w.heap.size w ws) (fun jv _ => xs[i].ctors.length - (intOf jv).toNat)
        case atStart => exact ⟨0, Nat.zero_le _, rfl, (show MissK xs[i].ctors xs[d].ctors[k].name 0 from rfl), HBQ.out _⟩
        case round =>
          clear hwo
          obtain ⟨j, hj, rfl, HK, hB2⟩ := hrel
          have HBq2 := Lib.hid (fun n => below_drewN hB2 n)
          obtain ⟨Ai, capi, Gi, hbi, i0, i1, HI, HGi, -, hci1, hci2⟩ := ArrDt.at HX.out HF.out hB2 i hil
          clear i0
          by_cases hlt : j < xs[i].ctors.length
          · have hjl : j < xs[i].ctors.length := by omega
            obtain ⟨bi, offi, rfl⟩ := HI.out.ptr (by omega)
            obtain ⟨-, -, -, hbj, j0, -, -, -, -, -, -, -⟩ := ArrKt.at HI.out HGi.out hB2 j hjl
            obtain ⟨Ad, capd, Gd, hbd, d0, d1, HD, HGd, -, hcd1, hcd2⟩ := ArrDt.at HX.out HF.out hB2 d hd
            clear d0
            obtain ⟨bd, offd, rfl⟩ := HD.out.ptr (by omega)
            obtain ⟨-, -, -, hbk, k0, -, -, -, -, -, -, -⟩ := ArrKt.at HD.out HGd.out hB2 k hk
            have g1 : (0 : Int) ≤ (j : Int) := by omega
            have g2 : (j : Int) < (xs[i].ctors.length : Int) := by omega
            have g3 : (0 : Int) ≤ (k : Int) := by omega
            have g4 : (k : Int) < (xs[d].ctors.length : Int) := by omega
            have g5 : (0 : Int) ≤ (i : Int) := by omega
            have g6 : (i : Int) < (xs.length : Int) := by omega
            have g7 : (0 : Int) ≤ (d : Int) := by omega
            have g8 : (d : Int) < (xs.length : Int) := by omega
            have g9 : decide (k < xs[d].ctors.length) = true := by simpa using hk
            cases e1 : (xs[i].ctors[j].name.toList == xs[d].ctors[k].name.toList) with
            | true =>
              have hf := Lib.hid (twice_hitC hil hid hjl e1 : twiceB (xs.take d) (xs[d].ctors.take k) xs[d].name xs[d].ctors[k].name = true)
              go_wp2_with fail
              go_quiet (fail)
              go_wp2
              go_ret
              exact ⟨ret_bool hf.out.symm, HBq2.out _⟩
            | false =>
              have HK2 := Lib.hid (HK.out.snoc hjl e1)
              go_wp2_with fail
              go_quiet (fail)
              go_wp2
              go_roundw
              case rel => exact ⟨j + 1, by omega, by go_num, HK2, HBq2.out _⟩
              case measure => (simp [intOf] <;> omega)
          · go_wp2_with fail
            have hm2 : MissD xs xs[d].name xs[d].ctors[k].name (i + 1) := HM.out.snoc hil HE0.out (HK.out.all (by omega))
            go_roundw
            case rel => exact ⟨i + 1, by omega, by go_num, ⟨fun _ => hm2, fun h => by omega⟩, hB2⟩
            case measure => (simp [intOf] <;> omega)

    · by_cases he : i = d
      · subst he
        have hil : i < xs.length := by omega
        have HM := Lib.hid (HR.out.1 (by omega))
        have hdec : decide (i < i) = false := by simp
        go_wp2_with fail
        go_quiet (fail)
        clear hB
        go_wp2
        obtain ⟨wo, hwo⟩ : ∃ wo : World, wo = wr := ⟨_, rfl⟩
        go_loopw [8] (fun jv ws => ∃ j : Nat, j ≤ k ∧ jv = .int .i64 j ∧ Hid (MissK xs[i].ctors xs[i].ctors[k].name j) ∧ Below w.heap.size w ws) (fun jv _ => k - (intOf jv).toNat)
        case atStart => exact ⟨0, Nat.zero_le _, rfl, (show MissK xs[i].ctors xs[i].ctors[k].name 0 from rfl), HBQ.out _⟩
        case round =>
          clear hwo
          obtain ⟨j, hj, rfl, HK, hB2⟩ := hrel
          have HBq2 := Lib.hid (fun n => below_drewN hB2 n)
          obtain ⟨Ai, capi, Gi, hbi, i0, i1, HI, HGi, -, hci1, hci2⟩ := ArrDt.at HX.out HF.out hB2 i hil
          clear i0
          by_cases hlt : j < k
          · have hjl : j < xs[i].ctors.length := by omega
            obtain ⟨bi, offi, rfl⟩ := HI.out.ptr (by omega)
            obtain ⟨-, -, -, hbj, j0, -, -, -, -, -, -, -⟩ := ArrKt.at HI.out HGi.out hB2 j hjl
            obtain ⟨-, -, -, hbk, k0, -, -, -, -, -, -, -⟩ := ArrKt.at HI.out HGi.out hB2 k hk
            have g1 : (0 : Int) ≤ (j : Int) := by omega
            have g2 : (j : Int) < (xs[i].ctors.length : Int) := by omega
            have g3 : (0 : Int) ≤ (k : Int) := by omega
            have g4 : (k : Int) < (xs[i].ctors.length : Int) := by omega
            have g5 : (0 : Int) ≤ (i : Int) := by omega
            have g6 : (i : Int) < (xs.length : Int) := by omega
            have g7 : (0 : Int) ≤ (i : Int) := by omega
            have g8 : (i : Int) < (xs.length : Int) := by omega
            have g9 : decide (k < xs[i].ctors.length) = true := by simpa using hk
            cases e1 : (xs[i].ctors[j].name.toList == xs[i].ctors[k].name.toList) with
            | true =>
              have hf := Lib.hid (twice_hitK hjl hlt e1 : twiceB (xs.take i) (xs[i].ctors.take k) xs[i].name xs[i].ctors[k].name = true)
              go_wp2_with fail
              go_quiet (fail)
              go_wp2
              go_ret
              exact ⟨ret_bool hf.out.symm, HBq2.out _⟩
            | false =>
              have HK2 := Lib.hid (HK.out.snoc hjl e1)
              go_wp2_with fail
              go_quiet (fail)
              go_wp2
              go_roundw
              case rel => exact ⟨j + 1, by omega, by go_num, HK2, HBq2.out _⟩
              case measure => (simp [intOf] <;> omega)
          · go_wp2_with fail
            have hm2 : twiceB (xs.take i) (xs[i].ctors.take k) xs[i].name xs[i].ctors[k].name = false := twice_miss HM.out (by have h := HK.out; have e : j = k := (by omega); unfold MissK at h; rw [e] at h; exact h)
            go_roundw
            case rel => exact ⟨i + 1, by omega, by go_num, ⟨fun h => by omega, fun _ => hm2⟩, hB2⟩
            case measure => (simp [intOf] <;> omega)

      · have hf := Lib.hid (HR.out.2 (by omega))
        go_wp2
        go_ret
        exact ⟨ret_bool hf.out.symm, hB⟩
end Go.Proofs.Ytilndhmegaccmaa

namespace Go.Proofs.Ytilndhmegaccmaa
open Go.RowKit

def WInv (xs : List Dt) (d : Nat) : Prop := worldOk xs = worldGo xs.length ((xs.take d).map Dt.name) (ctorNames (xs.take d)) (xs.drop d)
def KInv (xs : List Dt) (d : Nat) (hd : d < xs.length) (k : Nat) : Prop :=
  worldOk xs = (ctorsSpec xs.length (nameIn ((xs.take d).map Dt.name) xs[d].name) (ctorNames (xs.take d) ++ (xs[d].ctors.take k).map Kt.name) (xs[d].ctors.drop k) && worldGo xs.length ((xs.take (d + 1)).map Dt.name) (ctorNames (xs.take (d + 1))) (xs.drop (d + 1)))
def KInvI (xs : List Dt) (d : Nat) (hd : d < xs.length) (k : Nat) : Prop :=
  worldOk xs = (ctorsGo xs.length (ctorNames (xs.take d) ++ (xs[d].ctors.take k).map Kt.name) (xs[d].ctors.drop k) && worldGo xs.length ((xs.take (d + 1)).map Dt.name) (ctorNames (xs.take (d + 1))) (xs.drop (d + 1)))
theorem WInv.zero {xs : List Dt} (h : xs.length ≤ 4) : WInv xs 0 := by
  unfold WInv worldOk
  rw [decide_eq_true (by omega), Bool.true_and]; rfl
theorem worldOk_long {xs : List Dt} (h : ¬ xs.length ≤ 4) : worldOk xs = false := by
  unfold worldOk
  rw [decide_eq_false (by omega), Bool.false_and]
theorem WInv.done {xs : List Dt} {d : Nat} (h : WInv xs d) (hd : xs.length ≤ d) : worldOk xs = true := by
  unfold WInv at h
  rw [h, List.drop_of_length_le hd]; rfl
theorem WInv.step {xs : List Dt} {d : Nat} (h : WInv xs d) (hd : d < xs.length) : worldOk xs = (dnameOk xs[d].name.data.toList && (!nameIn ((xs.take d).map Dt.name) xs[d].name && (withinB (xs[d].ctors.length : Int) 1 4 && (ctorsGo xs.length (ctorNames (xs.take d)) xs[d].ctors && worldGo xs.length ((xs.take (d + 1)).map Dt.name) (ctorNames (xs.take (d + 1))) (xs.drop (d + 1)))))) := by
  unfold WInv at h
  rw [h, List.drop_eq_getElem_cons hd, worldGo, take_snoc' xs d hd, List.map_append, ctorNames_snoc]; rfl
theorem WInv.bad1 {xs : List Dt} {d : Nat} (h : WInv xs d) (hd : d < xs.length) (e : dnameOk xs[d].name.data.toList = false) : worldOk xs = false := by
  rw [h.step hd, e]; rfl
theorem WInv.bad2 {xs : List Dt} {d : Nat} (h : WInv xs d) (hd : d < xs.length) (e : withinB (xs[d].ctors.length : Int) 1 4 = false) : worldOk xs = false := by
  rw [h.step hd, e, Bool.false_and, Bool.and_false, Bool.and_false]
theorem WInv.bad3 {xs : List Dt} {d : Nat} (h : WInv xs d) (hd : d < xs.length) (e : nameIn ((xs.take d).map Dt.name) xs[d].name = true) : worldOk xs = false := by
  rw [h.step hd, e, Bool.not_true, Bool.false_and, Bool.and_false]
theorem WInv.go {xs : List Dt} {d : Nat} (h : WInv xs d) (hd : d < xs.length) (e1 : dnameOk xs[d].name.data.toList = true) (e2 : withinB (xs[d].ctors.length : Int) 1 4 = true) : KInv xs d hd 0 := by
  unfold KInv
  have hne : xs[d].ctors ≠ [] := fun e => by
    rw [e] at e2
    simp [withinB] at e2
  rw [List.take_zero, List.map_nil, List.append_nil, List.drop_zero, ctorsSpec_eq _ _ _ _ hne, h.step hd, e1, e2, Bool.true_and, Bool.true_and, Bool.and_assoc]
theorem WInv.goI {xs : List Dt} {d : Nat} (h : WInv xs d) (hd : d < xs.length) (e1 : dnameOk xs[d].name.data.toList = true) (e2 : withinB (xs[d].ctors.length : Int) 1 4 = true) (e3 : nameIn ((xs.take d).map Dt.name) xs[d].name = false) : KInvI xs d hd 0 := by
  unfold KInvI
  rw [List.take_zero, List.map_nil, List.append_nil, List.drop_zero, h.step hd, e1, e2, e3, Bool.not_false, Bool.true_and, Bool.true_and, Bool.true_and]
theorem KInv.step {xs : List Dt} {d k : Nat} {hd : d < xs.length} (h : KInv xs d hd k) (hk : k < xs[d].ctors.length) :
    worldOk xs = ((ctorOkB xs.length xs[d].ctors[k] && (!twiceB (xs.take d) (xs[d].ctors.take k) xs[d].name xs[d].ctors[k].name && ctorsSpec xs.length (nameIn ((xs.take d).map Dt.name) xs[d].name) (ctorNames (xs.take d) ++ (xs[d].ctors.take (k + 1)).map Kt.name) (xs[d].ctors.drop (k + 1)))) && worldGo xs.length ((xs.take (d + 1)).map Dt.name) (ctorNames (xs.take (d + 1))) (xs.drop (d + 1))) := by
  unfold KInv at h
  rw [h, List.drop_eq_getElem_cons hk, ctorsSpec, take_snoc' _ k hk, List.map_append, ← List.append_assoc]; rfl
theorem KInv.bad1 {xs : List Dt} {d k : Nat} {hd : d < xs.length} (h : KInv xs d hd k) (hk : k < xs[d].ctors.length) (e : ctorOkB xs.length xs[d].ctors[k] = false) : worldOk xs = false := by
  rw [h.step hk, e]; rfl
theorem KInv.bad2 {xs : List Dt} {d k : Nat} {hd : d < xs.length} (h : KInv xs d hd k) (hk : k < xs[d].ctors.length) (e : twiceB (xs.take d) (xs[d].ctors.take k) xs[d].name xs[d].ctors[k].name = true) : worldOk xs = false := by
  rw [h.step hk, e, Bool.not_true, Bool.false_and, Bool.and_false, Bool.false_and]
theorem KInv.next {xs : List Dt} {d k : Nat} {hd : d < xs.length} (h : KInv xs d hd k) (hk : k < xs[d].ctors.length) (e1 : ctorOkB xs.length xs[d].ctors[k] = true) (e2 : twiceB (xs.take d) (xs[d].ctors.take k) xs[d].name xs[d].ctors[k].name = false) : KInv xs d hd (k + 1) := by
  have h' := h.step hk
  rw [e1, e2, Bool.not_false, Bool.true_and, Bool.true_and] at h'
  exact h'
theorem KInv.done {xs : List Dt} {d k : Nat} {hd : d < xs.length} (h : KInv xs d hd k) (hk : xs[d].ctors.length ≤ k) : WInv xs (d + 1) := by
  unfold KInv at h
  rw [List.drop_of_length_le hk, ctorsSpec, Bool.true_and] at h
  exact h
theorem KInvI.step {xs : List Dt} {d k : Nat} {hd : d < xs.length} (h : KInvI xs d hd k) (hk : k < xs[d].ctors.length) :
    worldOk xs = ((ctorOkB xs.length xs[d].ctors[k] && (!nameIn (ctorNames (xs.take d) ++ (xs[d].ctors.take k).map Kt.name) xs[d].ctors[k].name && ctorsGo xs.length (ctorNames (xs.take d) ++ (xs[d].ctors.take (k + 1)).map Kt.name) (xs[d].ctors.drop (k + 1)))) && worldGo xs.length ((xs.take (d + 1)).map Dt.name) (ctorNames (xs.take (d + 1))) (xs.drop (d + 1))) := by
  unfold KInvI at h
  rw [h, List.drop_eq_getElem_cons hk, ctorsGo, take_snoc' _ k hk, List.map_append, ← List.append_assoc]; rfl
theorem KInvI.bad1 {xs : List Dt} {d k : Nat} {hd : d < xs.length} (h : KInvI xs d hd k) (hk : k < xs[d].ctors.length) (e : ctorOkB xs.length xs[d].ctors[k] = false) : worldOk xs = false := by
  rw [h.step hk, e]; rfl
theorem KInvI.bad2 {xs : List Dt} {d k : Nat} {hd : d < xs.length} (h : KInvI xs d hd k) (hk : k < xs[d].ctors.length) (e : nameIn (ctorNames (xs.take d) ++ (xs[d].ctors.take k).map Kt.name) xs[d].ctors[k].name = true) : worldOk xs = false := by
  rw [h.step hk, e, Bool.not_true, Bool.false_and, Bool.and_false, Bool.false_and]
theorem KInvI.next {xs : List Dt} {d k : Nat} {hd : d < xs.length} (h : KInvI xs d hd k) (hk : k < xs[d].ctors.length) (e1 : ctorOkB xs.length xs[d].ctors[k] = true) (e2 : nameIn (ctorNames (xs.take d) ++ (xs[d].ctors.take k).map Kt.name) xs[d].ctors[k].name = false) : KInvI xs d hd (k + 1) := by
  have h' := h.step hk
  rw [e1, e2, Bool.not_false, Bool.true_and, Bool.true_and] at h'
  exact h'
theorem KInvI.done {xs : List Dt} {d k : Nat} {hd : d < xs.length} (h : KInvI xs d hd k) (hk : xs[d].ctors.length ≤ k) : WInv xs (d + 1) := by
  unfold KInvI at h
  rw [List.drop_of_length_le hk, ctorsGo, Bool.true_and] at h
  exact h
end Go.Proofs.Ytilndhmegaccmaa

namespace Go.Proofs.Ytilndhmegaccmaa
open Go.RowKit

set_option maxRecDepth 100000 in
set_option maxHeartbeats 1600000 in
theorem spec_WorldValid (xs : List Dt) (w : World) (v : Value) (F : List Nat) (hx : Arr w (DtR w) xs v F) (hf : Under w.heap.size F) :
    Calls Try.prog 102 #[v] w fun e w' => e = .returned (.bool (worldOk xs)) ∧ Below w.heap.size w w' := by
  obtain ⟨A, cap, rfl, hc1, hc2⟩ := hx.form
  have HX := Lib.hid hx
  have HF := Lib.hid hf
  clear hx hf
  by_cases h4 : xs.length ≤ 4
  · have H0 := Lib.hid (WInv.zero h4)
    go_enter Try.func102, Try.ntmps102
    go_wp2
    go_loopw [3] (fun iv wr => ∃ d : Nat, d ≤ xs.length ∧ iv = .int .i64 d ∧ Hid (WInv xs d) ∧ Below w.heap.size w wr) (fun iv _ => xs.length - (intOf iv).toNat)
    case atStart => exact ⟨0, Nat.zero_le _, rfl, H0, Below.refl _ _⟩
    case round =>
      obtain ⟨d, hd, rfl, HW, hB⟩ := hrel
      by_cases hlt : d < xs.length
      · obtain ⟨b, off, rfl⟩ := HX.out.ptr (by omega)
        obtain ⟨A1, cap1, G1, hb, c0, c1, HK, HG, hs, hn1, hn2⟩ := ArrDt.at HX.out HF.out hB d hlt
        have g1 : (0 : Int) ≤ (d : Int) := by omega
        have g2 : (d : Int) < (xs.length : Int) := by omega
        have HS := Lib.hid hs
        clear hs
        go_wp2_with fail
        refine (spec_l1Data xs[d].name wr (by unfold maxLen; exact HS.out)).mono ?_
        rintro e w1 ⟨rfl, rfl⟩
        cases e1 : dnameOk xs[d].name.data.toList with
        | false =>
          have hf := Lib.hid (HW.out.bad1 hlt e1)
          clear e1
          go_wp2
          go_ret
          exact ⟨ret_bool hf.out.symm, hB⟩
        | true =>
          have HE1 := Lib.hid e1
          clear e1
          by_cases hl0 : xs[d].ctors.length = 0
          · have t0 : ((xs[d].ctors.length : Int) == 0) = true := by simp [hl0]
            have hf := Lib.hid (HW.out.bad2 hlt (withinB_lo (by simp; omega)))
            clear hl0
            go_wp2
            go_ret
            exact ⟨ret_bool hf.out.symm, hB⟩
          · have t0 : ((xs[d].ctors.length : Int) == 0) = false := by simp; simpa using hl0
            by_cases hl5 : 4 < xs[d].ctors.length
            · have t1 : decide ((xs[d].ctors.length : Int) > 4) = true := by simp; omega
              have hf := Lib.hid (HW.out.bad2 hlt (by rw [withinB_hi (by simp; omega)]; simp; omega))
              clear hl0
              go_wp2
              go_ret
              exact ⟨ret_bool hf.out.symm, hB⟩
            · have t1 : decide ((xs[d].ctors.length : Int) > 4) = false := by simp; omega
              have HK0 := Lib.hid (HW.out.go hlt HE1.out ((withinB_iff _ _ _).2 ⟨by omega, by omega⟩))
              have hl1 : 0 < xs[d].ctors.length := by omega
              clear hl0
              go_wp2
              clear t0 t1 c0 c1
              obtain ⟨wo, hwo⟩ : ∃ wo : World, wo = wr := ⟨_, rfl⟩
              go_loopw [4] (fun jv ws => ∃ k : Nat, k ≤ xs[d].ctors.length ∧ jv = .int .i64 k ∧ Hid (KInv xs d hlt k) ∧ Below w.heap.size w ws) (fun jv _ => xs[d].ctors.length - (intOf jv).toNat)
              case atStart => exact ⟨0, Nat.zero_le _, rfl, HK0, hB⟩
              case round =>
                clear hwo
                obtain ⟨k, hk, rfl, HKI, hB2⟩ := hrel
                obtain ⟨A2, cap2, G2, hb2, c0, c1, HK2, HG2, -, hn3, hn4⟩ := ArrDt.at HX.out HF.out hB2 d hlt
                clear c0
                by_cases hkl : k < xs[d].ctors.length
                · obtain ⟨b2, off2, rfl⟩ := HK2.out.ptr (by omega)
                  obtain ⟨A3, cap3, G3, hb3, k0, k1, k2, HC, HG3, -, -, -⟩ := ArrKt.rep HK2.out HG2.out hB2 k hkl
                  have g3 : (0 : Int) ≤ (k : Int) := by omega
                  have g4 : (k : Int) < (xs[d].ctors.length : Int) := by omega
                  go_wp2_with fail
                  refine (spec_l1Ctor xs.length xs[d].ctors[k] _ _ _ (HC.out.below hB2 HG3.out) (HG3.out.mono hB2.size)).mono ?_
                  rintro e w2 ⟨rfl, hb2'⟩
                  have hB3 := hB2.trans (hb2'.mono hB2.size)
                  cases e2 : ctorOkB xs.length xs[d].ctors[k] with
                  | false =>
                    have hf := Lib.hid (HKI.out.bad1 hkl e2)
                    clear e2
                    go_wp2
                    go_ret
                    exact ⟨ret_bool hf.out.symm, hB3⟩
                  | true =>
                    have HE2 := Lib.hid e2
                    clear e2 k0 k1 k2 c1
                    go_wp2_with fail
                    refine (spec_l1Twice xs d k hlt hkl _ _ F (ArrDt.below HX.out hB3 HF.out) (HF.out.mono hB3.size)).mono ?_
                    rintro e w3 ⟨rfl, hb3'⟩
                    have hB4 := hB3.trans (hb3'.mono hB3.size)
                    cases e3 : twiceB (xs.take d) (xs[d].ctors.take k) xs[d].name xs[d].ctors[k].name with
                    | true =>
                      have hf := Lib.hid (HKI.out.bad2 hkl e3)
                      clear e3
                      go_wp2
                      go_ret
                      exact ⟨ret_bool hf.out.symm, hB4⟩
                    | false =>
                      have HK3 := Lib.hid (HKI.out.next hkl HE2.out e3)
                      clear e3
                      go_wp2
                      go_roundw
                      case rel => exact ⟨k + 1, by omega, by go_num, HK3, hB4⟩
                      case measure => (simp [intOf] <;> omega)
                · have HW2 := Lib.hid (HKI.out.done (by omega))
                  go_wp2
                  go_roundw
                  case rel => exact ⟨d + 1, by omega, by go_num, HW2, hB2⟩
                  case measure => (simp [intOf] <;> omega)
      · have hf := Lib.hid (HW.out.done (by omega))
        go_wp2
        go_ret
        exact ⟨ret_bool hf.out.symm, hB⟩
  · have hf := Lib.hid (worldOk_long h4)
    go_enter Try.func102, Try.ntmps102
    go_wp2
    go_ret
    exact ⟨ret_bool hf.out.symm, Below.refl _ _⟩
end Go.Proofs.Ytilndhmegaccmaa

namespace Go.Proofs.Ytilndhmegaccmaa
open Go.RowKit

set_option maxRecDepth 100000 in
set_option maxHeartbeats 6400000 in
theorem spec_ParseWorld (text : ByteArray) (hs : text.size ≤ 1000000) (w : World) :
    Calls Try.prog 151 #[.string text] w (GivesWorld w (parseB text)) := by
  obtain ⟨i0, hi, hz0, hz1, hz2⟩ := info_parts info_KtE
  have HI := Lib.hid hi
  have HZ0 := Lib.hid hz0
  have HZ1 := Lib.hid hz1
  have HZ2 := Lib.hid hz2
  clear hi hz0 hz1 hz2
  obtain ⟨j0, hj, hj0, hj1, hj2⟩ := info_parts info_strE
  have HJ := Lib.hid hj
  have HJ0 := Lib.hid hj0
  have HJ1 := Lib.hid hj1
  have HJ2 := Lib.hid hj2
  clear hj hj0 hj1 hj2
  obtain ⟨m0, hm, hm0, hm1, hm2⟩ := info_parts info_DtE
  have HM := Lib.hid hm
  have HM0 := Lib.hid hm0
  have HM1 := Lib.hid hm1
  have HM2 := Lib.hid hm2
  clear hm hm0 hm1 hm2
  go_enter Try.func151, Try.ntmps151
  go_wp2_with fail
  have hB1 : Below w.heap.size w ((w.alloc (.cells #[] 97)).alloc (.cells #[] 9)) := ((Below.refl _ _).alloc (Nat.le_refl _) _).alloc (by simp) _
  have HO1 : Hid (Own ((w.alloc (.cells #[] 97)).alloc (.cells #[] 9)) w.heap.size 97 2 DtR ([] : List Dt) (.slice (some ⟨w.heap.size, 0, none⟩) 0 0) []) := (Own.made w w.heap.size 97 2 DtR #[] 0 (Nat.le_refl _) (by simp [maxLen]) rfl).below (fun x cs G hk h => DtR_mono' _ _ x cs G hk h) ((Below.refl _ _).alloc (Nat.le_refl _) _)
  have HN1 : Hid (Own ((w.alloc (.cells #[] 97)).alloc (.cells #[] 9)) (w.heap.size + 1) 9 1 StrR (namesOf []) (.slice (some ⟨w.heap.size + 1, 0, none⟩) 0 0) []) := by
    have h := Own.made (w.alloc (.cells #[] 97)) (w.heap.size + 1) 9 1 StrR #[] 0 (by simp) (by simp [maxLen]) rfl
    rw [World.size_alloc] at h
    exact h
  have hsz1 : (((w.alloc (.cells #[] 97)).alloc (.cells #[] 9))).heap.size = w.heap.size + 2 := by simp
  obtain ⟨wb, hwb⟩ : ∃ wb, wb = ((w.alloc (.cells #[] 97)).alloc (.cells #[] 9)) := ⟨_, rfl⟩
  rw [← hwb] at hB1 HO1 HN1 hsz1 ⊢
  clear hwb
  have hcut : Calls Try.prog 166 #[.string text, .int .u8 59] wb (MadeStrs wb (cutS 59 text)) := spec_l17Cut text 59 hs wb
  have hpos := cutS_pos 59 text
  have hlm := cutS_mem 59 text
  have hlen := cutS_len 59 text
  obtain ⟨lines, hlines⟩ : ∃ l, cutS 59 text = l := ⟨_, rfl⟩
  rw [hlines] at hcut hpos hlm hlen
  have HLN := Lib.hid hlines
  have HLM := Lib.hid hlm
  clear hlines hlm
  refine hcut.mono ?_
  rintro e w3 ⟨v3, F3, rfl, hb3, ha3, -, hfs3⟩
  obtain ⟨A3, cap3, rfl, hc3, hc4⟩ := ha3.form
  have hB3 := hB1.trans (hb3.mono hB1.size)
  have HO3 := Lib.hid (HO1.out.below (fun x cs G hk h => DtR_mono' _ _ x cs G hk h) hb3)
  have HNN := Lib.hid (HN1.out.below (fun x cs G hk h => StrR_mono _ _ x cs G hk h) hb3)
  have HA3 := Lib.hid ha3
  have HU3 := Lib.hid hfs3.under
  have HN3 : Hid (∀ b ∈ F3, w.heap.size + 2 ≤ b) := fun b hb => by have := (hfs3 b hb).1; omega
  have hw3 : w.heap.size + 2 ≤ w3.heap.size := by have := hb3.size; omega
  clear hb3 ha3 hfs3 HO1 HN1 hcut hB1 hsz1
  by_cases h0 : text.size = 0
  · skip
    have q0 : (text.toList == []) = true := by
      rw [beq_iff_eq, toList_tl]; exact List.eq_nil_of_length_eq_zero (by rw [tl_len]; exact h0)
    have HPS : Hid (parseS text = some []) := by unfold Hid parseS linesT; rw [if_pos h0]; rfl
    have u1 : (0 : Int) < (lines.length : Int) := by omega
    clear h0
    go_wp2
    go_loopw [5, 7] (fun nv iv wr => nv = .slice (some ⟨w.heap.size + 1, 0, none⟩) 0 0 ∧ iv = .int .i64 0 ∧ Below w3.heap.size w3 wr) (fun _ _ _ => 0)
    case atStart => exact ⟨rfl, rfl, Below.refl _ _⟩
    case round =>
      obtain ⟨rfl, rfl, hb4⟩ := hrel
      go_wp2
      obtain ⟨w4, hw4⟩ : ∃ w4, w4 = wr := ⟨_, rfl⟩
      rw [← hw4] at hb4 ⊢
      clear hw4
      go_loopw [4, 9] (fun ov iv wr => ov = .slice (some ⟨w.heap.size, 0, none⟩) 0 0 ∧ iv = .int .i64 0 ∧ Below w3.heap.size w3 wr) (fun _ _ _ => 0)
      case atStart => exact ⟨rfl, rfl, hb4⟩
      case round =>
        clear hb4
        obtain ⟨rfl, rfl, hb5⟩ := hrel
        have hB5 := hB3.trans (hb5.mono hB3.size)
        obtain ⟨ee, hee⟩ : ∃ ee : List Dt, ee = [] := ⟨_, rfl⟩
        have HO : Hid (Own wr w.heap.size 97 2 DtR ee (.slice (some ⟨w.heap.size, 0, none⟩) 0 0) []) := by rw [hee]; exact HO3.out.below (fun x cs G hk h => DtR_mono' _ _ x cs G hk h) hb5
        rw [← hee] at HPS
        clear hee
        have HFr : Hid (Free wr ([] : List Nat)) := Free.nil _
        have HFh : Hid (∀ b ∈ ([] : List Nat), w.heap.size ≤ b) := fun b hb => by cases hb
        clear HO3
        have harr := HO.out.arr
        have hfree := HO.out.free HFr.out
        have hfresh := Own.fresh (w0 := w) HO.out (Nat.le_refl _) HFh.out
        generalize (if ee = [] then [] else rowOf (.slice (some ⟨w.heap.size, 0, none⟩) 0 0) ++ ([] : List Nat)) = FF at harr hfree hfresh
        have HARR := Lib.hid harr
        have HFREE := Lib.hid hfree
        have HFRESH := Lib.hid hfresh
        clear harr hfree hfresh HO HFr HFh
        generalize hxx : ee = xx at *
        clear hxx
        go_wp2_with fail
        refine (spec_WorldValid xx wr _ FF HARR.out HFRESH.out.under).mono ?_
        rintro e w8 ⟨rfl, hb8⟩
        have hB8 := hB5.trans (hb8.mono hB5.size)
        cases e1 : worldOk xx with
        | false =>
          have HNO := Lib.hid (parseB_no HPS.out e1)
          clear e1
          have hfin : GivesWorld w (parseB text) (.returned (.tuple #[.slice (some ⟨w8.heap.size, 0, none⟩) 0 0, .bool false])) (w8.alloc (.cells #[] 97)) := by
            rw [HNO.out]
            exact ⟨_, [], rfl, hB8.alloc hB8.size _, ⟨_, _, rfl, by simp, by simp [maxLen], .inl ⟨rfl, rfl⟩⟩, Free.nil _, Fresh.nil _ _⟩
          have HFin := Lib.hid hfin
          clear hfin
          go_wp2
          go_ret2
          exact HFin.out
        | true =>
          have HW := Lib.hid (worldOK e1)
          have HE1 := Lib.hid e1
          clear e1
          have HA8 := Lib.hid (ArrDt.below HARR.out hb8 HFRESH.out.under)
          have hF8 := Lib.hid (HFRESH.out.under.mono hb8.size)
          go_wp2_with fail
          refine (spec_l1Text xx HW.out w8 _ FF HA8.out hF8.out).mono ?_
          rintro e w9 ⟨rfl, hb9⟩
          have hB9 := hB8.trans (hb9.mono hB8.size)
          have hb89 := hb8.trans (hb9.mono hb8.size)
          generalize htt : bs (textT xx) = tt
          cases e2 : (tt.toList == text.toList) with
          | true =>
            have HYES : Hid (parseB text = some xx) := parseB_yes HPS.out HE1.out (by rw [beq_iff_eq, toList_tl, toList_tl, ← htt, tl_bs] at e2; exact e2)
            have hfin : GivesWorld w (parseB text) (.returned (.tuple #[.slice (some ⟨w.heap.size, 0, none⟩) 0 0, .bool true])) w9 := by
              rw [HYES.out]
              exact ⟨_, FF, rfl, hB9, ArrDt.below HARR.out hb89 HFRESH.out.under, HFREE.out.kept (.of_below hb89 HFRESH.out.under), fun b hb => ⟨(HFRESH.out b hb).1, Nat.lt_of_lt_of_le (HFRESH.out b hb).2 hb89.size⟩⟩
            have HFin := Lib.hid hfin
            clear hfin htt
            go_wp2
            go_ret2
            exact HFin.out
          | false =>
            have HNO : Hid (parseB text = none) := parseB_text HPS.out (fun h => by rw [beq_eq_false_iff_ne, toList_tl, toList_tl, ← htt, tl_bs] at e2; exact e2 h)
            clear htt
            have hfin : GivesWorld w (parseB text) (.returned (.tuple #[.slice (some ⟨w9.heap.size, 0, none⟩) 0 0, .bool false])) (w9.alloc (.cells #[] 97)) := by
              rw [HNO.out]
              exact ⟨_, [], rfl, hB9.alloc hB9.size _, ⟨_, _, rfl, by simp, by simp [maxLen], .inl ⟨rfl, rfl⟩⟩, Free.nil _, Fresh.nil _ _⟩
            have HFin := Lib.hid hfin
            clear hfin
            go_wp2
            go_ret2
            exact HFin.out
  · skip
    have q0 : (text.toList == []) = false := by
      rw [beq_eq_false_iff_ne, toList_tl]; intro e; have := tl_len text; rw [e] at this; simp at this; omega
    have HLT : Hid (linesT text = lines.take 5) := by unfold Hid linesT; rw [if_neg h0, HLN.out]
    have hl5 : (lines.take 5).length ≤ 5 := by rw [List.length_take]; omega
    have HT0 : Hid (splitS (linesT text) = splitAfter [] ((lines.take 5).drop 0)) := by unfold Hid; rw [HLT.out, splitAfter_nil]; rfl
    clear h0
    go_wp2
    go_loopw [5, 7] (fun nv iv wr => ∃ i : Nat, ∃ ps : List (ByteArray × ByteArray), i ≤ lines.length ∧ i ≤ 5 ∧ ps.length = i ∧ iv = .int .i64 i ∧ Hid (splitS (linesT text) = splitAfter ps ((lines.take 5).drop i)) ∧ Hid (Own wr (w.heap.size + 1) 9 1 StrR (namesOf ps) nv []) ∧ Hid (∀ g ∈ rowOf nv, g = w.heap.size + 1 ∨ w3.heap.size ≤ g) ∧ Hid (Chg [w.heap.size + 1] w3 wr) ∧ Below w.heap.size w wr ∧ Hid (∀ p ∈ ps, p.1.size ≤ 1000000 ∧ p.2.size ≤ 1000000) ∧ Hid (∀ j (hj : j < ps.length), ∃ h2 : j < lines.length, cutS 61 lines[j] = [ps[j].1, ps[j].2])) (fun _ iv _ => 5 - (intOf iv).toNat)
    case atStart => exact ⟨0, [], Nat.zero_le _, by omega, rfl, rfl, HT0, HNN, (fun g hg => by rw [rowOf_some, List.mem_singleton] at hg; exact .inl hg), Chg.refl _ _, hB3, (fun p hp => by cases hp), (fun j hj => by simp at hj)⟩
    case round =>
      clear HNN HT0
      obtain ⟨i, ps, hil, hi5, hpl, rfl, HT, HN, HNR, HC, hB, HSZ, HPP⟩ := hrel
      by_cases hl1 : i < lines.length ∧ i ≤ 4
      · obtain ⟨hl1, hl2⟩ := hl1
        have u1 : decide ((i : Int) < (lines.length : Int)) = true := decide_eq_true (by omega)
        have u2 : decide ((i : Int) ≤ 4) = true := decide_eq_true (by omega)
        have g1 : (0 : Int) ≤ (i : Int) := by omega
        have g2 : (i : Int) < (lines.length : Int) := by omega
        obtain ⟨b3, off3, rfl⟩ := HA3.out.ptr (by omega)
        have HAr : Hid (Arr wr (StrR wr) lines (.slice (some ⟨b3, off3, none⟩) lines.length cap3) F3) := ArrStr.mono HA3.out (HC.out.kept HU3.out (fun b hb => by have := HN3.out b hb; simp; omega))
        obtain ⟨hbl, c0⟩ := ArrStr.at HAr.out (fun b hb => Nat.lt_of_lt_of_le (HU3.out b hb) HC.out.size) (Below.refl _ _) i hl1
        have hlsz : lines[i].size ≤ 1000000 := Nat.le_trans (HLM.out _ (List.getElem_mem hl1)) hs
        have htk : i < (lines.take 5).length := by rw [List.length_take]; omega
        have hge : (lines.take 5)[i] = lines[i] := List.getElem_take
        have hcall : Calls Try.prog 166 #[.string lines[i], .int .u8 61] wr (MadeStrs wr (cutS 61 lines[i])) := spec_l17Cut lines[i] 61 hlsz wr
        have hpm := cutS_mem 61 lines[i]
        by_cases h2 : (cutS 61 lines[i]).length = 2
        · obtain ⟨a, b, hab⟩ := two_of h2
          have HT2 : Hid (splitS (linesT text) = splitAfter (ps ++ [(a, b)]) ((lines.take 5).drop (i + 1))) := by
            unfold Hid
            rw [HT.out]
            exact splitAfter_good htk (by rw [hge]; exact hab)
          rw [hab] at hcall hpm
          have hsa : a.size ≤ 1000000 := Nat.le_trans (hpm a (by simp)) hlsz
          have hsb : b.size ≤ 1000000 := Nat.le_trans (hpm b (by simp)) hlsz
          have HSZ2 : Hid (∀ p ∈ ps ++ [(a, b)], p.1.size ≤ 1000000 ∧ p.2.size ≤ 1000000) := fun p hp => by
            rcases List.mem_append.1 hp with h | h
            · exact HSZ.out p h
            · rw [List.mem_singleton] at h; subst h; exact ⟨hsa, hsb⟩
          have HPP2 : Hid (∀ j (hj : j < (ps ++ [(a, b)]).length), ∃ h2 : j < lines.length, cutS 61 lines[j] = [(ps ++ [(a, b)])[j].1, (ps ++ [(a, b)])[j].2]) := fun j hj => by
            rw [List.length_append, List.length_singleton] at hj
            rcases Nat.lt_or_ge j ps.length with h | h
            · obtain ⟨e1, e2⟩ := HPP.out j h
              exact ⟨e1, by rw [List.getElem_append_left h]; exact e2⟩
            · obtain rfl : j = i := by omega
              refine ⟨hl1, ?_⟩
              rw [List.getElem_append_right h]
              simp only [hpl, Nat.sub_self, List.getElem_cons_zero]
              exact hab
          have hns := namesOf_snoc ps (a, b)
          have HNS := Lib.hid hns
          have hnl := namesOf_len ps
          have HCALL := Lib.hid hcall
          clear hcall hpm h2 hab hns HSZ HPP HT htk hge
          go_wp2_with fail
          refine HCALL.out.mono ?_
          rintro e w4 ⟨v4, F4, rfl, hb4, ha4, -, hfs4⟩
          obtain ⟨A4, cap4, rfl, hc7, hc8⟩ := ha4.form
          obtain ⟨b4, off4, rfl⟩ := ha4.ptr (by simp)
          obtain ⟨hb4l, p0⟩ := ArrStr.at ha4 hfs4.under (Below.refl _ _) 0 (by simp)
          have p0 : w4.cell? ⟨b4, off4, none⟩ = some (.string a) := p0
          have hB4 := hB.trans (hb4.mono hB.size)
          have HO1 : Hid (Own w4 (w.heap.size + 1) 9 1 StrR (namesOf ps) u5 []) := HN.out.below (fun x cs G hk h => StrR_mono _ _ x cs G hk h) hb4
          have hwz : w3.heap.size ≤ w4.heap.size := Nat.le_trans HC.out.size hb4.size
          have hC4 := Lib.hid (HC.out.step hb4)
          clear HCALL c0 hbl ha4 hfs4
          go_wp2_with (at_builtin; refine Halt.mk ?_)
          refine Halt.of (wpList_push1 (P := Try.prog) rfl _ _ 135 rfl j0 _ 16 Try.underlying135 HJ.out HJ0.out HJ1.out HJ2.out rfl Nat.zero_lt_one StrR_len StrR_mono (by rfl) HO1.out a 9 [.string a] [] _ (by rfl) (by simp) (by simp [Value.oneCell']) ⟨rfl, rfl⟩ (Under.nil _) (fun _ _ h => by cases h) (by unfold maxLen; omega) (by omega) (by omega) ?_)
          intro g cp w5 hown5 hgr5 hat5
          have hrow := HO1.out.row
          have hb45 : Below w4.heap.size w4 (w4.alloc (.cells #[.string a] 9)) := (Below.refl _ _).alloc (Nat.le_refl _) _
          have hC5 : Hid (Chg [w.heap.size + 1] w3 w5) := by
            have h1 := hC4.out.step hb45
            refine ⟨hgr5.os.trans h1.os, hgr5.tape.trans h1.tape, hgr5.output.trans h1.output, Nat.le_trans h1.size hgr5.size, fun x hx hn => (hgr5.block x (Nat.lt_of_lt_of_le hx h1.size) (fun e => ?_)).trans (h1.block x hx hn)⟩
            rcases HNR.out x (mem_rowOf.2 e.symm) with h | h
            · exact hn (by simp [h])
            · omega
          have hB5 : Below w.heap.size w w5 := (hB4.alloc hB4.size _).grown hgr5 (by have := hB4.size; simp; omega) (fun g hg => by have := (hrow g (mem_rowOf.2 hg)).1; omega)
          have HN5 : Hid (∀ g' ∈ rowOf (.slice (some ⟨g, 0, none⟩) ((namesOf ps).length + 1) cp), g' = w.heap.size + 1 ∨ w3.heap.size ≤ g') := fun g' hg' => by
            rw [rowOf_some, List.mem_singleton] at hg'
            subst hg'
            rcases hat5 with h | h
            · exact HNR.out _ (mem_rowOf.2 h)
            · right; omega
          have HO5 := Lib.hid hown5
          clear hown5 hgr5 hat5 hrow hb45 p0 hb4l hC4 HO1 hb4
          go_wp2
          go_roundw
          case rel => exact ⟨i + 1, ps ++ [(a, b)], by omega, by omega, by simp [hpl], by go_num, HT2, (by rw [HNS.out]; have h := HO5.out; rw [hnl, hpl] at h; exact h), (by have h := HN5.out; rw [hnl, hpl] at h; exact h), hC5, hB5, HSZ2, HPP2⟩
          case measure => (simp [intOf] <;> omega)
        · have HBAD : Hid (parseB text = none) := by
            refine parseB_bad ?_
            unfold parseS
            rw [HT.out, splitAfter_bad htk (by rw [hge]; exact h2)]
          have hne2 : (((cutS 61 lines[i]).length : Int) != 2) = true := by rw [bne_iff_ne]; omega
          have HCALL := Lib.hid hcall
          obtain ⟨parts, hparts⟩ : ∃ l, cutS 61 lines[i] = l := ⟨_, rfl⟩
          rw [hparts] at HCALL hne2
          clear hcall hpm h2 hparts htk hge
          go_wp2_with fail
          refine HCALL.out.mono ?_
          rintro e w4 ⟨v4, F4, rfl, hb4, ha4, -, hfs4⟩
          obtain ⟨A4, cap4, rfl, hc7, hc8⟩ := ha4.form
          have hB4 := hB.trans (hb4.mono hB.size)
          clear ha4 hfs4 HCALL c0 hbl
          have hfin : GivesWorld w (parseB text) (.returned (.tuple #[.slice (some ⟨w4.heap.size, 0, none⟩) 0 0, .bool false])) (w4.alloc (.cells #[] 97)) := by
            rw [HBAD.out]
            exact ⟨_, [], rfl, hB4.alloc hB4.size _, ⟨_, _, rfl, by simp, by simp [maxLen], .inl ⟨rfl, rfl⟩⟩, Free.nil _, Fresh.nil _ _⟩
          have HFin := Lib.hid hfin
          clear hfin
          go_wp2
          go_ret2
          exact HFin.out
      · by_cases hll : i < lines.length
        · have u1 : decide ((i : Int) < (lines.length : Int)) = true := decide_eq_true (by omega)
          have u2 : decide ((i : Int) ≤ 4) = false := decide_eq_false (by omega)
          have hdone : (lines.take 5).length ≤ i := by omega
          have HPS0 : Hid (parseS text = some (buildS ps)) := by
            have h := HT.out
            rw [splitAfter_end (by omega)] at h
            unfold Hid parseS
            rw [h]
          obtain ⟨nA, ncap, hnv, hnc1, hnc2⟩ := HN.out.form
          subst hnv
          have hna := HN.out.arr
          have HNROW := Lib.hid HN.out.row
          have hfn : ∀ b ∈ (if namesOf ps = [] then [] else rowOf (.slice nA (namesOf ps).length ncap) ++ []), w.heap.size + 1 ≤ b ∧ b < wr.heap.size := fun b hb => by
            split at hb
            · cases hb
            · rw [List.append_nil] at hb
              exact HNROW.out b hb
          generalize (if namesOf ps = [] then [] else rowOf (.slice nA (namesOf ps).length ncap) ++ []) = Fn at hna hfn
          have HNA := Lib.hid hna
          have HFN := Lib.hid hfn
          clear hna hfn HNROW HN
          have HLA : Hid (Arr wr (StrR wr) lines (.slice A3 lines.length cap3) F3) := ArrStr.mono HA3.out (HC.out.kept HU3.out (fun b hb => by have := HN3.out b hb; simp; omega))
          have HLU : Hid (∀ b ∈ F3, w.heap.size + 1 ≤ b ∧ b < wr.heap.size) := fun b hb => ⟨by have := HN3.out b hb; omega, Nat.lt_of_lt_of_le (HU3.out b hb) HC.out.size⟩
          have HO6 : Hid (Own wr w.heap.size 97 2 DtR (dtsTo ps 0) (.slice (some ⟨w.heap.size, 0, none⟩) 0 0) []) := Own.mono (w := w3) (fun x cs G hk h => DtR_mono' _ _ x cs G hk h) HO3.out (HC.out.kept (fun b hb => by rw [rowOf_some, List.append_nil, List.mem_singleton] at hb; omega) (fun b hb => by rw [rowOf_some, List.append_nil, List.mem_singleton] at hb; simp; omega)) HC.out.size
          have hnl := namesOf_len ps
          go_wp2
          obtain ⟨w6, hw6⟩ : ∃ w6, w6 = wr := ⟨_, rfl⟩
          rw [← hw6] at HNA HFN HLA HLU HO6 hB ⊢
          have hw63 : w3.heap.size ≤ w6.heap.size := by rw [hw6]; exact HC.out.size
          clear hw6 HC HA3 HU3 HO3 hl1
          obtain ⟨names, hnm⟩ : ∃ l, namesOf ps = l := ⟨_, rfl⟩
          rw [hnm] at HNA hnl ⊢
          have HNM := Lib.hid hnm
          have HNL := Lib.hid hnl
          have HPL := Lib.hid hpl
          have hps5 : ps.length ≤ 5 := by omega
          clear hnm hnl hpl
          go_loopw [4, 9] (fun ov iv wr => ∃ i : Nat, ∃ Fo : List Nat, i ≤ ps.length ∧ iv = .int .i64 i ∧ Hid (Own wr w.heap.size 97 2 DtR (dtsTo ps i) ov Fo) ∧ Hid (Free wr Fo) ∧ Hid (∀ b ∈ Fo, w6.heap.size ≤ b) ∧ Hid (∀ g ∈ rowOf ov, g = w.heap.size ∨ w6.heap.size ≤ g) ∧ Hid (Chg [w.heap.size] w6 wr) ∧ Below w.heap.size w wr ∧ w6.heap.size ≤ wr.heap.size) (fun _ iv _ => ps.length - (intOf iv).toNat)
          case atStart => exact ⟨0, [], Nat.zero_le _, rfl, HO6, Free.nil _, (fun b hb => by cases hb), (fun g hg => by rw [rowOf_some, List.mem_singleton] at hg; exact .inl hg), Chg.refl _ _, hB, Nat.le_refl _⟩
          case round =>
            clear hB HO6
            obtain ⟨i, Fo, hi, rfl, HO, HFr, HFh, HR, HC, hB, hw6r⟩ := hrel
            by_cases hil : i < ps.length
            · have hnl := HNL.out
              have u3 : decide ((i : Int) < (names.length : Int)) = true := decide_eq_true (by omega)
              have g1 : (0 : Int) ≤ (i : Int) := by omega
              have g2 : (i : Int) < (names.length : Int) := by omega
              clear hnl
              obtain ⟨hil2, hcut⟩ := HPP.out i hil
              have g3 : (i : Int) < (lines.length : Int) := by omega
              have HLr : Hid (Arr wr (StrR wr) lines (.slice A3 lines.length cap3) F3) := ArrStr.mono HLA.out (HC.out.kept (fun b hb => (HLU.out b hb).2) (fun b hb => by have := (HLU.out b hb).1; simp; omega))
              have HNr : Hid (Arr wr (StrR wr) names (.slice nA names.length ncap) Fn) := ArrStr.mono HNA.out (HC.out.kept (fun b hb => (HFN.out b hb).2) (fun b hb => by have := (HFN.out b hb).1; simp; omega))
              have hFnr : Hid (Under wr.heap.size Fn) := fun b hb => Nat.lt_of_lt_of_le (HFN.out b hb).2 hw6r
              obtain ⟨bL, offL, rfl⟩ := HLr.out.ptr (by omega)
              obtain ⟨hbL, cL⟩ := ArrStr.at HLr.out (fun b hb => Nat.lt_of_lt_of_le (HLU.out b hb).2 hw6r) (Below.refl _ _) i hil2
              have hlsz : lines[i].size ≤ 1000000 := Nat.le_trans (HLM.out _ (List.getElem_mem hil2)) hs
              have hcall : Calls Try.prog 166 #[.string lines[i], .int .u8 61] wr (MadeStrs wr (cutS 61 lines[i])) := spec_l17Cut lines[i] 61 hlsz wr
              rw [hcut] at hcall
              have HCALL := Lib.hid hcall
              clear hcall hcut
              go_wp2_with fail
              refine HCALL.out.mono ?_
              rintro e w7 ⟨v7, F7, rfl, hb7, ha7, -, hfs7⟩
              obtain ⟨A7, cap7, rfl, hc7, hc8⟩ := ha7.form
              obtain ⟨b7, off7, rfl⟩ := ha7.ptr (by simp)
              obtain ⟨hb7l, p71⟩ := ArrStr.at ha7 hfs7.under (Below.refl _ _) 1 (by simp)
              have p71 : w7.cell? ⟨b7, off7 + 1, none⟩ = some (.string ps[i].2) := p71
              have hB7 := hB.trans (hb7.mono hB.size)
              have hpsz := (HSZ.out ps[i] (List.getElem_mem hil))
              have hcall2 : Calls Try.prog 166 #[.string ps[i].2, .int .u8 124] w7 (MadeStrs w7 (cutS 124 ps[i].2)) := spec_l17Cut ps[i].2 124 hpsz.2 w7
              have HCALL2 := Lib.hid hcall2
              clear hcall2 HCALL cL hbL ha7 hfs7
              go_wp2_with fail
              refine HCALL2.out.mono ?_
              rintro e w8 ⟨v8, F8, rfl, hb8, ha8, -, hfs8⟩
              obtain ⟨A8, cap8, rfl, hc9, hc10⟩ := ha8.form
              have hB8 := hB7.trans (hb8.mono hB7.size)
              have hr8 : Below wr.heap.size wr w8 := hb7.trans (hb8.mono hb7.size)
              have hcm := cutS_mem 124 ps[i].2
              obtain ⟨cl, hcl⟩ : ∃ l, cutS 124 ps[i].2 = l := ⟨_, rfl⟩
              rw [hcl] at ha8 hcm
              have HCL := Lib.hid hcl
              have HA8 := Lib.hid ha8
              have HU8 := Lib.hid hfs8.under
              have HCM := Lib.hid hcm
              clear hcm
              rw [hcl] at hc9 ⊢
              clear hcl ha8 hfs8 p71 hb7l HCALL2
              have HN8 : Hid (Arr w8 (StrR w8) names (.slice nA names.length ncap) Fn) := ArrStr.below HNr.out hr8 hFnr.out
              have hFn8 : Hid (Under w8.heap.size Fn) := hFnr.out.mono hr8.size
              obtain ⟨bN, offN, hnA⟩ := HN8.out.ptr (by have := HNL.out; omega)
              subst hnA
              obtain ⟨hbN, cN⟩ := ArrStr.at HN8.out hFn8.out (Below.refl _ _) i (by have := HNL.out; omega)
              have hnmi : names[i]'(by have := HNL.out; omega) = ps[i].1 := by have h := HNM.out; subst h; exact namesOf_get ps i hil
              rw [hnmi] at cN
              have hw9 : Below w8.heap.size w8 (w8.alloc (.cells #[.string ps[i].1, .slice none 0 0] 97)) := (Below.refl _ _).alloc (Nat.le_refl _) _
              have HO8 : Hid (Own w8 w.heap.size 97 2 DtR (dtsTo ps i) u4 Fo) := HO.out.below (fun x cs G hk h => DtR_mono' _ _ x cs G hk h) hr8
              have HFr8 : Hid (Free w8 Fo) := HFr.out.kept (.of_below hr8 HO.out.under)
              have HC8 : Hid (Chg [w.heap.size] w6 w8) := HC.out.step hr8
              have hw68 : w6.heap.size ≤ w8.heap.size := Nat.le_trans hw6r hr8.size
              have HO9 : Hid (Own (w8.alloc (.cells #[.string ps[i].1, .slice none 0 0] 97)) w.heap.size 97 2 DtR (dtsTo ps i) u4 Fo) := HO8.out.below (fun x cs G hk h => DtR_mono' _ _ x cs G hk h) hw9
              have HFr9 : Hid (Free (w8.alloc (.cells #[.string ps[i].1, .slice none 0 0] 97)) Fo) := HFr8.out.kept (.of_below hw9 HO8.out.under)
              have HC9 : Hid (Chg [w.heap.size] w6 (w8.alloc (.cells #[.string ps[i].1, .slice none 0 0] 97))) := HC8.out.step hw9
              have KD9 : Hid (Blk (w8.alloc (.cells #[.string ps[i].1, .slice none 0 0] 97)) w8.heap.size 97 #[.string ps[i].1, .slice none 0 0]) := Blk.new _ _ _
              have HN9 : Hid (Arr (w8.alloc (.cells #[.string ps[i].1, .slice none 0 0] 97)) (StrR _) names (.slice (some ⟨bN, offN, none⟩) names.length ncap) Fn) := ArrStr.below HN8.out hw9 hFn8.out
              have HA9 : Hid (Arr (w8.alloc (.cells #[.string ps[i].1, .slice none 0 0] 97)) (StrR _) cl (.slice A8 cl.length cap8) F8) := ArrStr.below HA8.out hw9 HU8.out
              have hB9 := hB8.trans (hw9.mono hB8.size)
              have hD : w.heap.size < w8.heap.size := Nat.lt_of_lt_of_le (by omega) hw68
              have hw9s : (w8.alloc (.cells #[.string ps[i].1, .slice none 0 0] 97)).heap.size = w8.heap.size + 1 := World.size_alloc _ _
              go_wp2
              obtain ⟨w9, hw9e⟩ : ∃ w9, w9 = w8.alloc (.cells #[.string ps[i].1, .slice none 0 0] 97) := ⟨_, rfl⟩
              rw [← hw9e] at HO9 HFr9 HC9 KD9 HN9 HA9 hB9 hw9s ⊢
              have HB8 : Hid (∀ b ∈ rowOf u4 ++ Fo, b < w8.heap.size) := fun b hb => by
                rcases List.mem_append.1 hb with h | h
                · exact (HO8.out.row b h).2
                · exact HO8.out.under b h
              clear hw9 hw9e HO8 HFr8 HC8 HN8 HA8 HLr HNr HO HFr HC hB hB7 hB8 hb7 hb8 hr8 cN hbN
              have hpz := hpsz.1
              have hpz2 := hpsz.2
              clear hpsz
              go_loopw [12] (fun kv' wr => ∃ k : Nat, ∃ kv : Value, ∃ Fk : List Nat, k ≤ cl.length ∧ k ≤ 5 ∧ kv' = .int .i64 k ∧ Hid (Blk wr w8.heap.size 97 #[.string ps[i].1, kv]) ∧ Hid (Own wr (w8.heap.size + 1) 138 3 KtR (ktsTo names cl k) kv Fk) ∧ Hid (Free wr Fk) ∧ Hid (∀ b ∈ Fk, w8.heap.size + 1 ≤ b) ∧ Hid (Chg [w8.heap.size] w9 wr) ∧ Below w.heap.size w wr ∧ w9.heap.size ≤ wr.heap.size) (fun kv' _ => 5 - (intOf kv').toNat)
              case atStart => exact ⟨0, _, [], Nat.zero_le _, by omega, rfl, KD9, (show Own _ _ _ _ _ (ktsTo names cl 0) _ _ from Own.nil _ _ _ _ _), Free.nil _, (fun b hb => by cases hb), Chg.refl _ _, hB9, Nat.le_refl _⟩
              case round =>
                clear hB9 KD9
                obtain ⟨k, kv, Fk, hkl, hk5, rfl, KD, HOk, HFk, HFkh, HCk, hB, hw9r⟩ := hrel
                obtain ⟨kA, kcap, hkv, hkc1, hkc2⟩ := HOk.out.form
                subst hkv
                have z0 : wr.cell? ⟨w8.heap.size, 0, none⟩ = some (.string ps[i].1) := (KD.out.cell 0).trans (by simp)
                have z1 : wr.cell? ⟨w8.heap.size, 1, none⟩ = some (.slice kA (ktsTo names cl k).length kcap) := (KD.out.cell 1).trans (by simp)
                have zf1 := KD.out.frozen 1
                have hkz := KD.out.lt
                by_cases hlt : k < cl.length ∧ k ≤ 4
                · obtain ⟨hk1, hk2⟩ := hlt
                  have u5 : decide ((k : Int) < (cl.length : Int)) = true := decide_eq_true (by omega)
                  have u6 : decide ((k : Int) ≤ 4) = true := decide_eq_true (by omega)
                  have g5 : (0 : Int) ≤ (k : Int) := by omega
                  have g6 : (k : Int) < (cl.length : Int) := by omega
                  obtain ⟨b5, off5, rfl⟩ := HA9.out.ptr (by omega)
                  have hu9 : Hid (∀ b ∈ F8, b < w8.heap.size) := HU8.out
                  have HAr : Hid (Arr wr (StrR wr) cl (.slice (some ⟨b5, off5, none⟩) cl.length cap8) F8) := ArrStr.mono HA9.out (HCk.out.kept (fun b hb => by have := hu9.out b hb; omega) (fun b hb => by have := hu9.out b hb; simp; omega))
                  have HNr : Hid (Arr wr (StrR wr) names (.slice (some ⟨bN, offN, none⟩) names.length ncap) Fn) := ArrStr.mono HN9.out (HCk.out.kept (fun b hb => by have := hFn8.out b hb; omega) (fun b hb => by have := hFn8.out b hb; simp; omega))
                  obtain ⟨hb5l, c0⟩ := ArrStr.at HAr.out (fun b hb => by have := hu9.out b hb; omega) (Below.refl _ _) k hk1
                  have hb5w : b5 < w8.heap.size := by
                    obtain ⟨b', off', cs', G', e', hb', -⟩ := HAr.out.get (StrR_len wr) hk1
                    cases e'
                    exact hu9.out _ hb'
                  have hb5n : w8.heap.size ≠ b5 := by omega
                  have hm5 : cl[k].size ≤ 1000000 := Nat.le_trans (HCM.out _ (List.getElem_mem hk1)) hpz2
                  have HF2 := Lib.hid (ktsTo_succ names cl k hk1)
                  have hkl4 : (ktsTo names cl k).length ≤ 4 := Nat.le_trans (ktsTo_len names cl k) hk2
                  have hmx : (ktsTo names cl k).length + 1 ≤ maxLen := by unfold maxLen; omega
                  have hby : ((ktsTo names cl k).length + 1) * 48 ≤ 140737488355328 := by omega
                  have hwr8 : w8.heap.size + 1 ≤ wr.heap.size := by omega
                  have hb5w1 : b5 < w8.heap.size + 1 := by omega
                  have hHD8 : w.heap.size ≤ w8.heap.size := by omega
                  have HCALL := Lib.hid (spec_l1ParseCtor names cl[k] wr.drew _ Fn (ArrStr.mono (w := wr) HNr.out (fun _ _ => rfl)) (fun b hb => by have := hFn8.out b hb; show b < wr.heap.size; omega) hm5)
                  go_wp2_with fail
                  generalize hpk : pkt names cl[k] = c at HCALL HF2
                  clear hpk
                  refine wp_region_B (S := fun w' => w'.cell? ⟨b5, off5 + k, none⟩ = some (.string cl[k])) (T := fun w' => w'.cell? ⟨w8.heap.size, 1, none⟩ = some (.slice kA (ktsTo names cl k).length kcap)) (d := 9) (by kernel_rfl) ?_
                  have hS1 : wr.drew.cell? ⟨b5, off5 + k, none⟩ = some (.string cl[k]) := c0
                  have hT1 : wr.drew.cell? ⟨w8.heap.size, 1, none⟩ = some (.slice kA (ktsTo names cl k).length kcap) := z1
                  refine wpAnyB_take (i := 0) (v := ?_) rfl (by decide) (by kernel_rfl) (by kernel_rfl) (by kernel_rfl) (fun _ _ _ h => h) (Or.inl ⟨by rfl, ?hy0⟩) hS1 (fun _ => hT1) ?_
                  case hy0 => (intro W hSw; (try dsimp only at hSw); go_simp; try with_reducible rfl)

                  (try simp only [Act.put, List.setIfInBounds_toArray, List.set_cons_zero, List.set_cons_succ])
                  refine wpAnyB_takeB (i := 1) (v := ?_) rfl (by decide) rfl (by kernel_rfl) (by kernel_rfl) (by kernel_rfl) (by kernel_rfl) (fun _ _ _ h => h) (Or.inl ⟨by rfl, ?hy1⟩) (by rfl) hS1 hT1 ?_
                  case hy1 => (intro W hSw; (try dsimp only at hSw); go_simp; try with_reducible rfl)

                  (try simp only [Act.put, List.setIfInBounds_toArray, List.set_cons_zero, List.set_cons_succ])
                  refine wpAnyB_take (i := 2) (v := ?_) rfl (by decide) (by kernel_rfl) (by kernel_rfl) (by kernel_rfl) (fun _ _ _ h => h) (Or.inl ⟨by rfl, ?hy2⟩) hS1 (fun _ => hT1) ?_
                  case hy2 => (intro W hSw; (try dsimp only at hSw); go_simp; try with_reducible rfl)

                  (try simp only [Act.put, List.setIfInBounds_toArray, List.set_cons_zero, List.set_cons_succ])
                  refine wpAnyB_take (i := 3) (v := ?_) rfl (by decide) (by kernel_rfl) (by kernel_rfl) (by kernel_rfl) (fun _ _ _ h => h) (Or.inl ⟨by rfl, ?hy3⟩) hS1 (fun _ => hT1) ?_
                  case hy3 => (intro W hSw; (try dsimp only at hSw); go_simp; try with_reducible rfl)

                  (try simp only [Act.put, List.setIfInBounds_toArray, List.set_cons_zero, List.set_cons_succ])
                  refine wpAnyB_take (i := 4) (v := ?_) rfl (by decide) (by kernel_rfl) (by kernel_rfl) (by kernel_rfl) (fun _ _ _ h => h) (Or.inl ⟨by rfl, ?hy4⟩) hS1 (fun _ => hT1) ?_
                  case hy4 => (intro W hSw; (try dsimp only at hSw); go_simp; try with_reducible rfl)

                  (try simp only [Act.put, List.setIfInBounds_toArray, List.set_cons_zero, List.set_cons_succ])
                  refine wpAnyB_take (i := 5) (v := ?_) rfl (by decide) (by kernel_rfl) (by kernel_rfl) (by kernel_rfl) (fun _ _ _ h => h) (Or.inl ⟨by rfl, ?hy5⟩) hS1 (fun _ => hT1) ?_
                  case hy5 => (intro W hSw; (try dsimp only at hSw); go_simp; try with_reducible rfl)

                  (try simp only [Act.put, List.setIfInBounds_toArray, List.set_cons_zero, List.set_cons_succ])
                  refine wpAnyB_take (i := 6) (v := ?_) rfl (by decide) (by kernel_rfl) (by kernel_rfl) (by kernel_rfl) (fun _ _ _ h => h) (Or.inl ⟨by rfl, ?hy6⟩) hS1 (fun _ => hT1) ?_
                  case hy6 => (intro W hSw; (try dsimp only at hSw); go_simp; try with_reducible rfl)

                  (try simp only [Act.put, List.setIfInBounds_toArray, List.set_cons_zero, List.set_cons_succ])
                  refine wpAnyB_ready (rs := [7]) (by kernel_rfl) (by simp) ?_
                  refine AllReadyB.cons rfl (fun K hK => ?_) AllReadyB.nil
                  go_simp
                  go_at_call 167
                  with_reducible refine HCALL.out.mono ?_
                  rintro e wA ⟨cs, G, rfl, hBA, hkA', hfrA, hfsA⟩
                  obtain ⟨cA, ccap, rfl⟩ := KtR_form hkA'
                  have hBu := below_undrew hBA
                  have hS6 : wA.cell? ⟨b5, off5 + k, none⟩ = some (.string cl[k]) := (hBu.cell hb5l).trans c0
                  have z61 : wA.cell? ⟨w8.heap.size, 1, none⟩ = some (.slice kA (ktsTo names cl k).length kcap) := (hBu.cell hkz).trans z1
                  have zf61 : wA.frozen? ⟨w8.heap.size, 1, none⟩ = false := (hBu.frozen hkz).trans zf1
                  have hkz6 : w8.heap.size < wA.heap.size := Nat.lt_of_lt_of_le hkz hBu.size
                  have HOA : Hid (Own wA (w8.heap.size + 1) 138 3 KtR (ktsTo names cl k) (.slice kA (ktsTo names cl k).length kcap) Fk) := HOk.out.below (fun x cs G hk h => KtR_mono' _ _ x cs G hk h) hBu
                  have HKA := Lib.hid hkA'
                  have HfrA := Lib.hid hfrA
                  have HfsA : Hid (∀ b ∈ G, wr.heap.size ≤ b ∧ b < wA.heap.size) := hfsA
                  clear hkA' hfrA hfsA
                  dsimp only
                  refine hK.out _ _ hS6 (fun _ => z61) ?_
                  clear hK K
                  (try simp only [Act.put, List.setIfInBounds_toArray, List.set_cons_zero, List.set_cons_succ])
                  refine wpAnyB_ready (rs := [8]) (by kernel_rfl) (by simp) ?_
                  refine AllReadyB.cons rfl (fun K hK => ?_) AllReadyB.nil
                  go_simp
                  refine hK.out _ _ ((World.cell?_alloc_lt _ _ _ (Nat.lt_of_lt_of_le hb5l hBu.size)).trans hS6) (fun _ => (World.cell?_alloc_lt _ _ _ hkz6).trans z61) ?_
                  clear hK K
                  (try simp only [Act.put, List.setIfInBounds_toArray, List.set_cons_zero, List.set_cons_succ])
                  refine wpAnyB_ready (rs := [9]) (by kernel_rfl) (by simp) ?_
                  refine AllReadyB.cons rfl (fun K hK => ?_) AllReadyB.nil
                  refine step_push1 (P := Try.prog) rfl _ _ 95 rfl i0 _ 48 Try.underlying95 HI.out HZ0.out HZ1.out HZ2.out rfl (by decide) KtR_len' KtR_mono' (by rfl) HOA.out c 138 [.string c.name, .slice cA c.args.length ccap, .int .i64 c.idx] G _ (by rfl) rfl (by simp [Value.oneCell']) HKA.out (fun b hb => (HfsA.out b hb).2) (fun g hg hG => Nat.lt_irrefl _ (Nat.lt_of_lt_of_le (HOk.out.row g hg).2 (HfsA.out g hG).1)) hmx hby (Nat.le_trans hwr8 hBu.size) ?_
                  intro g cp w7 hown7 hgr7 hat7
                  have s7 : w7.cell? ⟨b5, off5 + k, none⟩ = some (.string cl[k]) := (World.cell?_of_block (a := ⟨b5, off5 + k, none⟩) (grow_old HOk.out hBu hgr7 hb5w1 hb5l)).trans c0
                  have z71 : w7.cell? ⟨w8.heap.size, 1, none⟩ = some (.slice kA (ktsTo names cl k).length kcap) := (World.cell?_of_block (a := ⟨w8.heap.size, 1, none⟩) (grow_old HOk.out hBu hgr7 (Nat.lt_succ_self _) hkz)).trans z1
                  have zf71 : w7.frozen? ⟨w8.heap.size, 1, none⟩ = false := (World.frozen?_of_block (a := ⟨w8.heap.size, 1, none⟩) (grow_old HOk.out hBu hgr7 (Nat.lt_succ_self _) hkz)).trans zf1
                  refine hK.out _ _ s7 (fun _ => z71) ?_
                  clear hK K
                  (try simp only [Act.put, List.setIfInBounds_toArray, List.set_cons_zero, List.set_cons_succ])
                  refine wpAnyB_take (i := 10) (v := ?_) rfl (by decide) (by kernel_rfl) (by kernel_rfl) (by kernel_rfl) (fun _ _ _ h => h) (Or.inl ⟨by rfl, ?hy10⟩) s7 (fun _ => z71) ?_
                  case hy10 => (intro W hSw; (try dsimp only at hSw); go_simp; try with_reducible rfl)
                  (try simp only [Act.put, List.setIfInBounds_toArray, List.set_cons_zero, List.set_cons_succ])
                  refine wpAnyB_ready (rs := [11]) (by kernel_rfl) (by simp) ?_
                  refine AllReadyB.cons rfl (fun K hK => ?_) AllReadyB.nil
                  go_simp
                  refine hK.out _ _ ((World.cell?_setCell_far _ _ _ _ hb5n).trans s7) (fun h => by cases h) ?_
                  clear hK K
                  (try simp only [Act.put, List.setIfInBounds_toArray, List.set_cons_zero, List.set_cons_succ])
                  refine wpAnyB_end (by kernel_rfl) ?_
                  all_goals (
                    obtain ⟨r1, r2, r3, r4, r5, r6, r7⟩ := grow_round KtR_mono' hw9s KD.out HOk.out HFk.out HFkh.out HCk.out hB hHD8 (Nat.le_refl _) hBu HfrA.out HfsA.out hown7 hgr7
                    have R1 := Lib.hid r1
                    have R2 := Lib.hid r2
                    have R3 := Lib.hid r3
                    have R4 := Lib.hid r4
                    have R5 := Lib.hid r5
                    have R6 := Lib.hid r6
                    clear r1 r2 r3 r4 r5 r6 hown7 hgr7 hat7 hS1 hT1 hS6 s7 z61 zf61 z0 z1 zf1 z71 zf71 HOA HKA HfrA HfsA hBu hBA hkz6
                    go_wp2
                    go_roundw
                    case rel => exact ⟨k + 1, _, Fk ++ G, hk1, Nat.succ_le_succ hk2, by go_num, R1, by rw [HF2.out]; exact R2.out, R3, R4, R5, R6.out, r7⟩
                    case measure => (simp [intOf] <;> omega))
                · have hpd : Hid (pdt (namesOf ps) ps[i] = ⟨ps[i].1, ktsTo names cl k⟩) := by
                    unfold Hid pdt
                    rw [HNM.out, HCL.out, ktsTo_all names cl hk5 (by omega)]
                  have HF2 := Lib.hid (dtsTo_succ ps i hil)
                  have hdl : (dtsTo ps i).length ≤ 5 := Nat.le_trans (dtsTo_len ps i) (by omega)
                  have hOr : Hid (Own wr w.heap.size 97 2 DtR (dtsTo ps i) u4 Fo) := Own.mono (w := w9) (fun x cs G hk h => DtR_mono' _ _ x cs G hk h) HO9.out (HCk.out.kept (fun b hb => by have := HB8.out b hb; omega) (fun b hb => by have := HB8.out b hb; simp; omega)) HCk.out.size
                  have hFrr : Hid (Free wr Fo) := HFr9.out.kept (HCk.out.kept (fun b hb => by have := HB8.out b (List.mem_append.2 (.inr hb)); omega) (fun b hb => by have := HB8.out b (List.mem_append.2 (.inr hb)); simp; omega))
                  have hCr : Hid (Chg [w.heap.size] w6 wr) := HC9.out.trans_new HCk.out hw68
                  have harr := HOk.out.arr
                  have hfree := HOk.out.free HFk.out
                  have hrk := HOk.out.row
                  have hff : ∀ b ∈ (if ktsTo names cl k = [] then [] else rowOf (.slice kA (ktsTo names cl k).length kcap) ++ Fk), w8.heap.size + 1 ≤ b ∧ b < wr.heap.size := fun b hb => by
                    split at hb
                    · cases hb
                    · rcases List.mem_append.1 hb with h | h
                      · exact hrk b h
                      · exact ⟨HFkh.out b h, HOk.out.under b h⟩
                  generalize (if ktsTo names cl k = [] then [] else rowOf (.slice kA (ktsTo names cl k).length kcap) ++ Fk) = FF at harr hfree hff
                  have HFF := Lib.hid hff
                  have HFREE := Lib.hid hfree
                  have HDX : Hid (DtR wr ⟨ps[i].1, ktsTo names cl k⟩ [.string ps[i].1, .slice kA (ktsTo names cl k).length kcap] FF) := ⟨_, rfl, harr, (show ps[i].1.size ≤ 9223372036854775807 by omega)⟩
                  clear harr hfree hrk hff HOk HFk HFkh HO9 HFr9 HC9 HN9 HA9 HU8
                  have hbs : w.heap.size ≤ wr.heap.size := hB.size
                  by_cases hk5' : k < cl.length
                  · have u5 : decide ((k : Int) < (cl.length : Int)) = true := decide_eq_true (by omega)
                    have u6 : decide ((k : Int) ≤ 4) = false := decide_eq_false (by omega)
                    clear hlt
                    go_wp2_with (at_builtin; refine Halt.mk ?_)
                    refine Halt.of (wpList_push1 (P := Try.prog) rfl _ _ 30 rfl m0 _ 40 Try.underlying30 HM.out HM0.out HM1.out HM2.out rfl (by decide) DtR_len' DtR_mono' (by rfl) hOr.out ⟨ps[i].1, ktsTo names cl k⟩ 97 [.string ps[i].1, .slice kA (ktsTo names cl k).length kcap] FF _ (by rfl) (by simp) (by simp [Value.oneCell']) HDX.out (fun b hb => (HFF.out b hb).2) (fun g hg hG => by have h1 := HB8.out g (List.mem_append.2 (.inl hg)); have h2 := (HFF.out g hG).1; omega) (by unfold maxLen; omega) (by omega) hbs ?_)
                    intro g cp w7 hown7 hgr7 hat7
                    obtain ⟨r1, r2, r3, r4, r5, r6⟩ := push_round (n := (dtsTo ps i).length + 1) (cp := cp) hOr.out hFrr.out HFREE.out HB8.out HFF.out HR.out hCr.out hB (Nat.le_refl _) HFh.out hw68 hgr7 hat7
                    have HFr7 := Lib.hid r1
                    have HFh7 := Lib.hid r2
                    have HR7 := Lib.hid r3
                    have HC7 := Lib.hid r4
                    have HB7 := Lib.hid r5
                    clear r1 r2 r3 r4 r5
                    have HO7 := Lib.hid hown7
                    have HEQ : Hid (dtsTo ps (i + 1) = dtsTo ps i ++ [⟨ps[i].1, ktsTo names cl k⟩]) := by unfold Hid; rw [HF2.out, hpd.out]
                    clear hown7 hgr7 hat7
                    go_wp2
                    go_roundw
                    case rel => exact ⟨i + 1, Fo ++ FF, by omega, by go_num, by rw [HEQ.out]; exact HO7.out, HFr7, HFh7, HR7, HC7, HB7.out, r6⟩
                    case measure => (simp [intOf] <;> omega)
                  · have u5 : decide ((k : Int) < (cl.length : Int)) = false := decide_eq_false (by omega)
                    clear hlt
                    go_wp2_with (at_builtin; refine Halt.mk ?_)
                    refine Halt.of (wpList_push1 (P := Try.prog) rfl _ _ 30 rfl m0 _ 40 Try.underlying30 HM.out HM0.out HM1.out HM2.out rfl (by decide) DtR_len' DtR_mono' (by rfl) hOr.out ⟨ps[i].1, ktsTo names cl k⟩ 97 [.string ps[i].1, .slice kA (ktsTo names cl k).length kcap] FF _ (by rfl) (by simp) (by simp [Value.oneCell']) HDX.out (fun b hb => (HFF.out b hb).2) (fun g hg hG => by have h1 := HB8.out g (List.mem_append.2 (.inl hg)); have h2 := (HFF.out g hG).1; omega) (by unfold maxLen; omega) (by omega) hbs ?_)
                    intro g cp w7 hown7 hgr7 hat7
                    obtain ⟨r1, r2, r3, r4, r5, r6⟩ := push_round (n := (dtsTo ps i).length + 1) (cp := cp) hOr.out hFrr.out HFREE.out HB8.out HFF.out HR.out hCr.out hB (Nat.le_refl _) HFh.out hw68 hgr7 hat7
                    have HFr7 := Lib.hid r1
                    have HFh7 := Lib.hid r2
                    have HR7 := Lib.hid r3
                    have HC7 := Lib.hid r4
                    have HB7 := Lib.hid r5
                    clear r1 r2 r3 r4 r5
                    have HO7 := Lib.hid hown7
                    have HEQ : Hid (dtsTo ps (i + 1) = dtsTo ps i ++ [⟨ps[i].1, ktsTo names cl k⟩]) := by unfold Hid; rw [HF2.out, hpd.out]
                    clear hown7 hgr7 hat7
                    go_wp2
                    go_roundw
                    case rel => exact ⟨i + 1, Fo ++ FF, by omega, by go_num, by rw [HEQ.out]; exact HO7.out, HFr7, HFh7, HR7, HC7, HB7.out, r6⟩
                    case measure => (simp [intOf] <;> omega)
            · have HPS : Hid (parseS text = some (dtsTo ps i)) := by unfold Hid; rw [HPS0.out, dtsTo_all ps (by omega)]
              have u3 : decide ((i : Int) < (names.length : Int)) = false := decide_eq_false (by have := HNL.out; omega)
              have HFh2 : Hid (∀ b ∈ Fo, w.heap.size ≤ b) := fun b hb => by have := HFh.out b hb; omega
              clear HFh
              have HFh := HFh2
              have hil3 : ¬ i < names.length := by have := HNL.out; omega
              clear HFh2 hil
              have harr := HO.out.arr
              have hfree := HO.out.free HFr.out
              have hfresh := Own.fresh (w0 := w) HO.out (Nat.le_refl _) HFh.out
              generalize (if (dtsTo ps i) = [] then [] else rowOf (u4) ++ Fo) = FF at harr hfree hfresh
              have HARR := Lib.hid harr
              have HFREE := Lib.hid hfree
              have HFRESH := Lib.hid hfresh
              clear harr hfree hfresh HO HFr HFh
              generalize hxx : (dtsTo ps i) = xx at *
              clear hxx
              go_wp2_with fail
              refine (spec_WorldValid xx wr _ FF HARR.out HFRESH.out.under).mono ?_
              rintro e w8 ⟨rfl, hb8⟩
              have hB8 := hB.trans (hb8.mono hB.size)
              cases e1 : worldOk xx with
              | false =>
                have HNO := Lib.hid (parseB_no HPS.out e1)
                clear e1
                have hfin : GivesWorld w (parseB text) (.returned (.tuple #[.slice (some ⟨w8.heap.size, 0, none⟩) 0 0, .bool false])) (w8.alloc (.cells #[] 97)) := by
                  rw [HNO.out]
                  exact ⟨_, [], rfl, hB8.alloc hB8.size _, ⟨_, _, rfl, by simp, by simp [maxLen], .inl ⟨rfl, rfl⟩⟩, Free.nil _, Fresh.nil _ _⟩
                have HFin := Lib.hid hfin
                clear hfin
                go_wp2
                go_ret2
                exact HFin.out
              | true =>
                have HW := Lib.hid (worldOK e1)
                have HE1 := Lib.hid e1
                clear e1
                have HA8 := Lib.hid (ArrDt.below HARR.out hb8 HFRESH.out.under)
                have hF8 := Lib.hid (HFRESH.out.under.mono hb8.size)
                go_wp2_with fail
                refine (spec_l1Text xx HW.out w8 _ FF HA8.out hF8.out).mono ?_
                rintro e w9 ⟨rfl, hb9⟩
                have hB9 := hB8.trans (hb9.mono hB8.size)
                have hb89 := hb8.trans (hb9.mono hb8.size)
                generalize htt : bs (textT xx) = tt
                cases e2 : (tt.toList == text.toList) with
                | true =>
                  have HYES : Hid (parseB text = some xx) := parseB_yes HPS.out HE1.out (by rw [beq_iff_eq, toList_tl, toList_tl, ← htt, tl_bs] at e2; exact e2)
                  have hfin : GivesWorld w (parseB text) (.returned (.tuple #[u4, .bool true])) w9 := by
                    rw [HYES.out]
                    exact ⟨_, FF, rfl, hB9, ArrDt.below HARR.out hb89 HFRESH.out.under, HFREE.out.kept (.of_below hb89 HFRESH.out.under), fun b hb => ⟨(HFRESH.out b hb).1, Nat.lt_of_lt_of_le (HFRESH.out b hb).2 hb89.size⟩⟩
                  have HFin := Lib.hid hfin
                  clear hfin htt
                  go_wp2
                  go_ret2
                  exact HFin.out
                | false =>
                  have HNO : Hid (parseB text = none) := parseB_text HPS.out (fun h => by rw [beq_eq_false_iff_ne, toList_tl, toList_tl, ← htt, tl_bs] at e2; exact e2 h)
                  clear htt
                  have hfin : GivesWorld w (parseB text) (.returned (.tuple #[.slice (some ⟨w9.heap.size, 0, none⟩) 0 0, .bool false])) (w9.alloc (.cells #[] 97)) := by
                    rw [HNO.out]
                    exact ⟨_, [], rfl, hB9.alloc hB9.size _, ⟨_, _, rfl, by simp, by simp [maxLen], .inl ⟨rfl, rfl⟩⟩, Free.nil _, Fresh.nil _ _⟩
                  have HFin := Lib.hid hfin
                  clear hfin
                  go_wp2
                  go_ret2
                  exact HFin.out
        · have u1 : decide ((i : Int) < (lines.length : Int)) = false := decide_eq_false (by omega)
          have hdone : (lines.take 5).length ≤ i := by rw [List.length_take]; omega
          have HPS0 : Hid (parseS text = some (buildS ps)) := by
            have h := HT.out
            rw [splitAfter_end (by omega)] at h
            unfold Hid parseS
            rw [h]
          obtain ⟨nA, ncap, hnv, hnc1, hnc2⟩ := HN.out.form
          subst hnv
          have hna := HN.out.arr
          have HNROW := Lib.hid HN.out.row
          have hfn : ∀ b ∈ (if namesOf ps = [] then [] else rowOf (.slice nA (namesOf ps).length ncap) ++ []), w.heap.size + 1 ≤ b ∧ b < wr.heap.size := fun b hb => by
            split at hb
            · cases hb
            · rw [List.append_nil] at hb
              exact HNROW.out b hb
          generalize (if namesOf ps = [] then [] else rowOf (.slice nA (namesOf ps).length ncap) ++ []) = Fn at hna hfn
          have HNA := Lib.hid hna
          have HFN := Lib.hid hfn
          clear hna hfn HNROW HN
          have HLA : Hid (Arr wr (StrR wr) lines (.slice A3 lines.length cap3) F3) := ArrStr.mono HA3.out (HC.out.kept HU3.out (fun b hb => by have := HN3.out b hb; simp; omega))
          have HLU : Hid (∀ b ∈ F3, w.heap.size + 1 ≤ b ∧ b < wr.heap.size) := fun b hb => ⟨by have := HN3.out b hb; omega, Nat.lt_of_lt_of_le (HU3.out b hb) HC.out.size⟩
          have HO6 : Hid (Own wr w.heap.size 97 2 DtR (dtsTo ps 0) (.slice (some ⟨w.heap.size, 0, none⟩) 0 0) []) := Own.mono (w := w3) (fun x cs G hk h => DtR_mono' _ _ x cs G hk h) HO3.out (HC.out.kept (fun b hb => by rw [rowOf_some, List.append_nil, List.mem_singleton] at hb; omega) (fun b hb => by rw [rowOf_some, List.append_nil, List.mem_singleton] at hb; simp; omega)) HC.out.size
          have hnl := namesOf_len ps
          go_wp2
          obtain ⟨w6, hw6⟩ : ∃ w6, w6 = wr := ⟨_, rfl⟩
          rw [← hw6] at HNA HFN HLA HLU HO6 hB ⊢
          have hw63 : w3.heap.size ≤ w6.heap.size := by rw [hw6]; exact HC.out.size
          clear hw6 HC HA3 HU3 HO3 hl1
          obtain ⟨names, hnm⟩ : ∃ l, namesOf ps = l := ⟨_, rfl⟩
          rw [hnm] at HNA hnl ⊢
          have HNM := Lib.hid hnm
          have HNL := Lib.hid hnl
          have HPL := Lib.hid hpl
          have hps5 : ps.length ≤ 5 := by omega
          clear hnm hnl hpl
          go_loopw [4, 9] (fun ov iv wr => ∃ i : Nat, ∃ Fo : List Nat, i ≤ ps.length ∧ iv = .int .i64 i ∧ Hid (Own wr w.heap.size 97 2 DtR (dtsTo ps i) ov Fo) ∧ Hid (Free wr Fo) ∧ Hid (∀ b ∈ Fo, w6.heap.size ≤ b) ∧ Hid (∀ g ∈ rowOf ov, g = w.heap.size ∨ w6.heap.size ≤ g) ∧ Hid (Chg [w.heap.size] w6 wr) ∧ Below w.heap.size w wr ∧ w6.heap.size ≤ wr.heap.size) (fun _ iv _ => ps.length - (intOf iv).toNat)
          case atStart => exact ⟨0, [], Nat.zero_le _, rfl, HO6, Free.nil _, (fun b hb => by cases hb), (fun g hg => by rw [rowOf_some, List.mem_singleton] at hg; exact .inl hg), Chg.refl _ _, hB, Nat.le_refl _⟩
          case round =>
            clear hB HO6
            obtain ⟨i, Fo, hi, rfl, HO, HFr, HFh, HR, HC, hB, hw6r⟩ := hrel
            by_cases hil : i < ps.length
            · have hnl := HNL.out
              have u3 : decide ((i : Int) < (names.length : Int)) = true := decide_eq_true (by omega)
              have g1 : (0 : Int) ≤ (i : Int) := by omega
              have g2 : (i : Int) < (names.length : Int) := by omega
              clear hnl
              obtain ⟨hil2, hcut⟩ := HPP.out i hil
              have g3 : (i : Int) < (lines.length : Int) := by omega
              have HLr : Hid (Arr wr (StrR wr) lines (.slice A3 lines.length cap3) F3) := ArrStr.mono HLA.out (HC.out.kept (fun b hb => (HLU.out b hb).2) (fun b hb => by have := (HLU.out b hb).1; simp; omega))
              have HNr : Hid (Arr wr (StrR wr) names (.slice nA names.length ncap) Fn) := ArrStr.mono HNA.out (HC.out.kept (fun b hb => (HFN.out b hb).2) (fun b hb => by have := (HFN.out b hb).1; simp; omega))
              have hFnr : Hid (Under wr.heap.size Fn) := fun b hb => Nat.lt_of_lt_of_le (HFN.out b hb).2 hw6r
              obtain ⟨bL, offL, rfl⟩ := HLr.out.ptr (by omega)
              obtain ⟨hbL, cL⟩ := ArrStr.at HLr.out (fun b hb => Nat.lt_of_lt_of_le (HLU.out b hb).2 hw6r) (Below.refl _ _) i hil2
              have hlsz : lines[i].size ≤ 1000000 := Nat.le_trans (HLM.out _ (List.getElem_mem hil2)) hs
              have hcall : Calls Try.prog 166 #[.string lines[i], .int .u8 61] wr (MadeStrs wr (cutS 61 lines[i])) := spec_l17Cut lines[i] 61 hlsz wr
              rw [hcut] at hcall
              have HCALL := Lib.hid hcall
              clear hcall hcut
              go_wp2_with fail
              refine HCALL.out.mono ?_
              rintro e w7 ⟨v7, F7, rfl, hb7, ha7, -, hfs7⟩
              obtain ⟨A7, cap7, rfl, hc7, hc8⟩ := ha7.form
              obtain ⟨b7, off7, rfl⟩ := ha7.ptr (by simp)
              obtain ⟨hb7l, p71⟩ := ArrStr.at ha7 hfs7.under (Below.refl _ _) 1 (by simp)
              have p71 : w7.cell? ⟨b7, off7 + 1, none⟩ = some (.string ps[i].2) := p71
              have hB7 := hB.trans (hb7.mono hB.size)
              have hpsz := (HSZ.out ps[i] (List.getElem_mem hil))
              have hcall2 : Calls Try.prog 166 #[.string ps[i].2, .int .u8 124] w7 (MadeStrs w7 (cutS 124 ps[i].2)) := spec_l17Cut ps[i].2 124 hpsz.2 w7
              have HCALL2 := Lib.hid hcall2
              clear hcall2 HCALL cL hbL ha7 hfs7
              go_wp2_with fail
              refine HCALL2.out.mono ?_
              rintro e w8 ⟨v8, F8, rfl, hb8, ha8, -, hfs8⟩
              obtain ⟨A8, cap8, rfl, hc9, hc10⟩ := ha8.form
              have hB8 := hB7.trans (hb8.mono hB7.size)
              have hr8 : Below wr.heap.size wr w8 := hb7.trans (hb8.mono hb7.size)
              have hcm := cutS_mem 124 ps[i].2
              obtain ⟨cl, hcl⟩ : ∃ l, cutS 124 ps[i].2 = l := ⟨_, rfl⟩
              rw [hcl] at ha8 hcm
              have HCL := Lib.hid hcl
              have HA8 := Lib.hid ha8
              have HU8 := Lib.hid hfs8.under
              have HCM := Lib.hid hcm
              clear hcm
              rw [hcl] at hc9 ⊢
              clear hcl ha8 hfs8 p71 hb7l HCALL2
              have HN8 : Hid (Arr w8 (StrR w8) names (.slice nA names.length ncap) Fn) := ArrStr.below HNr.out hr8 hFnr.out
              have hFn8 : Hid (Under w8.heap.size Fn) := hFnr.out.mono hr8.size
              obtain ⟨bN, offN, hnA⟩ := HN8.out.ptr (by have := HNL.out; omega)
              subst hnA
              obtain ⟨hbN, cN⟩ := ArrStr.at HN8.out hFn8.out (Below.refl _ _) i (by have := HNL.out; omega)
              have hnmi : names[i]'(by have := HNL.out; omega) = ps[i].1 := by have h := HNM.out; subst h; exact namesOf_get ps i hil
              rw [hnmi] at cN
              have hw9 : Below w8.heap.size w8 (w8.alloc (.cells #[.string ps[i].1, .slice none 0 0] 97)) := (Below.refl _ _).alloc (Nat.le_refl _) _
              have HO8 : Hid (Own w8 w.heap.size 97 2 DtR (dtsTo ps i) u4 Fo) := HO.out.below (fun x cs G hk h => DtR_mono' _ _ x cs G hk h) hr8
              have HFr8 : Hid (Free w8 Fo) := HFr.out.kept (.of_below hr8 HO.out.under)
              have HC8 : Hid (Chg [w.heap.size] w6 w8) := HC.out.step hr8
              have hw68 : w6.heap.size ≤ w8.heap.size := Nat.le_trans hw6r hr8.size
              have HO9 : Hid (Own (w8.alloc (.cells #[.string ps[i].1, .slice none 0 0] 97)) w.heap.size 97 2 DtR (dtsTo ps i) u4 Fo) := HO8.out.below (fun x cs G hk h => DtR_mono' _ _ x cs G hk h) hw9
              have HFr9 : Hid (Free (w8.alloc (.cells #[.string ps[i].1, .slice none 0 0] 97)) Fo) := HFr8.out.kept (.of_below hw9 HO8.out.under)
              have HC9 : Hid (Chg [w.heap.size] w6 (w8.alloc (.cells #[.string ps[i].1, .slice none 0 0] 97))) := HC8.out.step hw9
              have KD9 : Hid (Blk (w8.alloc (.cells #[.string ps[i].1, .slice none 0 0] 97)) w8.heap.size 97 #[.string ps[i].1, .slice none 0 0]) := Blk.new _ _ _
              have HN9 : Hid (Arr (w8.alloc (.cells #[.string ps[i].1, .slice none 0 0] 97)) (StrR _) names (.slice (some ⟨bN, offN, none⟩) names.length ncap) Fn) := ArrStr.below HN8.out hw9 hFn8.out
              have HA9 : Hid (Arr (w8.alloc (.cells #[.string ps[i].1, .slice none 0 0] 97)) (StrR _) cl (.slice A8 cl.length cap8) F8) := ArrStr.below HA8.out hw9 HU8.out
              have hB9 := hB8.trans (hw9.mono hB8.size)
              have hD : w.heap.size < w8.heap.size := Nat.lt_of_lt_of_le (by omega) hw68
              have hw9s : (w8.alloc (.cells #[.string ps[i].1, .slice none 0 0] 97)).heap.size = w8.heap.size + 1 := World.size_alloc _ _
              go_wp2
              obtain ⟨w9, hw9e⟩ : ∃ w9, w9 = w8.alloc (.cells #[.string ps[i].1, .slice none 0 0] 97) := ⟨_, rfl⟩
              rw [← hw9e] at HO9 HFr9 HC9 KD9 HN9 HA9 hB9 hw9s ⊢
              have HB8 : Hid (∀ b ∈ rowOf u4 ++ Fo, b < w8.heap.size) := fun b hb => by
                rcases List.mem_append.1 hb with h | h
                · exact (HO8.out.row b h).2
                · exact HO8.out.under b h
              clear hw9 hw9e HO8 HFr8 HC8 HN8 HA8 HLr HNr HO HFr HC hB hB7 hB8 hb7 hb8 hr8 cN hbN
              have hpz := hpsz.1
              have hpz2 := hpsz.2
              clear hpsz
              go_loopw [12] (fun kv' wr => ∃ k : Nat, ∃ kv : Value, ∃ Fk : List Nat, k ≤ cl.length ∧ k ≤ 5 ∧ kv' = .int .i64 k ∧ Hid (Blk wr w8.heap.size 97 #[.string ps[i].1, kv]) ∧ Hid (Own wr (w8.heap.size + 1) 138 3 KtR (ktsTo names cl k) kv Fk) ∧ Hid (Free wr Fk) ∧ Hid (∀ b ∈ Fk, w8.heap.size + 1 ≤ b) ∧ Hid (Chg [w8.heap.size] w9 wr) ∧ Below w.heap.size w wr ∧ w9.heap.size ≤ wr.heap.size) (fun kv' _ => 5 - (intOf kv').toNat)
              case atStart => exact ⟨0, _, [], Nat.zero_le _, by omega, rfl, KD9, (show Own _ _ _ _ _ (ktsTo names cl 0) _ _ from Own.nil _ _ _ _ _), Free.nil _, (fun b hb => by cases hb), Chg.refl _ _, hB9, Nat.le_refl _⟩
              case round =>
                clear hB9 KD9
                obtain ⟨k, kv, Fk, hkl, hk5, rfl, KD, HOk, HFk, HFkh, HCk, hB, hw9r⟩ := hrel
                obtain ⟨kA, kcap, hkv, hkc1, hkc2⟩ := HOk.out.form
                subst hkv
                have z0 : wr.cell? ⟨w8.heap.size, 0, none⟩ = some (.string ps[i].1) := (KD.out.cell 0).trans (by simp)
                have z1 : wr.cell? ⟨w8.heap.size, 1, none⟩ = some (.slice kA (ktsTo names cl k).length kcap) := (KD.out.cell 1).trans (by simp)
                have zf1 := KD.out.frozen 1
                have hkz := KD.out.lt
                by_cases hlt : k < cl.length ∧ k ≤ 4
                · obtain ⟨hk1, hk2⟩ := hlt
                  have u5 : decide ((k : Int) < (cl.length : Int)) = true := decide_eq_true (by omega)
                  have u6 : decide ((k : Int) ≤ 4) = true := decide_eq_true (by omega)
                  have g5 : (0 : Int) ≤ (k : Int) := by omega
                  have g6 : (k : Int) < (cl.length : Int) := by omega
                  obtain ⟨b5, off5, rfl⟩ := HA9.out.ptr (by omega)
                  have hu9 : Hid (∀ b ∈ F8, b < w8.heap.size) := HU8.out
                  have HAr : Hid (Arr wr (StrR wr) cl (.slice (some ⟨b5, off5, none⟩) cl.length cap8) F8) := ArrStr.mono HA9.out (HCk.out.kept (fun b hb => by have := hu9.out b hb; omega) (fun b hb => by have := hu9.out b hb; simp; omega))
                  have HNr : Hid (Arr wr (StrR wr) names (.slice (some ⟨bN, offN, none⟩) names.length ncap) Fn) := ArrStr.mono HN9.out (HCk.out.kept (fun b hb => by have := hFn8.out b hb; omega) (fun b hb => by have := hFn8.out b hb; simp; omega))
                  obtain ⟨hb5l, c0⟩ := ArrStr.at HAr.out (fun b hb => by have := hu9.out b hb; omega) (Below.refl _ _) k hk1
                  have hb5w : b5 < w8.heap.size := by
                    obtain ⟨b', off', cs', G', e', hb', -⟩ := HAr.out.get (StrR_len wr) hk1
                    cases e'
                    exact hu9.out _ hb'
                  have hb5n : w8.heap.size ≠ b5 := by omega
                  have hm5 : cl[k].size ≤ 1000000 := Nat.le_trans (HCM.out _ (List.getElem_mem hk1)) hpz2
                  have HF2 := Lib.hid (ktsTo_succ names cl k hk1)
                  have hkl4 : (ktsTo names cl k).length ≤ 4 := Nat.le_trans (ktsTo_len names cl k) hk2
                  have hmx : (ktsTo names cl k).length + 1 ≤ maxLen := by unfold maxLen; omega
                  have hby : ((ktsTo names cl k).length + 1) * 48 ≤ 140737488355328 := by omega
                  have hwr8 : w8.heap.size + 1 ≤ wr.heap.size := by omega
                  have hb5w1 : b5 < w8.heap.size + 1 := by omega
                  have hHD8 : w.heap.size ≤ w8.heap.size := by omega
                  have HCALL := Lib.hid (spec_l1ParseCtor names cl[k] wr.drew _ Fn (ArrStr.mono (w := wr) HNr.out (fun _ _ => rfl)) (fun b hb => by have := hFn8.out b hb; show b < wr.heap.size; omega) hm5)
                  go_wp2_with fail
                  generalize hpk : pkt names cl[k] = c at HCALL HF2
                  clear hpk
                  refine wp_region_B (S := fun w' => w'.cell? ⟨b5, off5 + k, none⟩ = some (.string cl[k])) (T := fun w' => w'.cell? ⟨w8.heap.size, 1, none⟩ = some (.slice kA (ktsTo names cl k).length kcap)) (d := 9) (by kernel_rfl) ?_
                  have hS1 : wr.drew.cell? ⟨b5, off5 + k, none⟩ = some (.string cl[k]) := c0
                  have hT1 : wr.drew.cell? ⟨w8.heap.size, 1, none⟩ = some (.slice kA (ktsTo names cl k).length kcap) := z1
                  refine wpAnyB_take (i := 0) (v := ?_) rfl (by decide) (by kernel_rfl) (by kernel_rfl) (by kernel_rfl) (fun _ _ _ h => h) (Or.inl ⟨by rfl, ?hy0⟩) hS1 (fun _ => hT1) ?_
                  case hy0 => (intro W hSw; (try dsimp only at hSw); go_simp; try with_reducible rfl)

                  (try simp only [Act.put, List.setIfInBounds_toArray, List.set_cons_zero, List.set_cons_succ])
                  refine wpAnyB_takeB (i := 1) (v := ?_) rfl (by decide) rfl (by kernel_rfl) (by kernel_rfl) (by kernel_rfl) (by kernel_rfl) (fun _ _ _ h => h) (Or.inl ⟨by rfl, ?hy1⟩) (by rfl) hS1 hT1 ?_
                  case hy1 => (intro W hSw; (try dsimp only at hSw); go_simp; try with_reducible rfl)

                  (try simp only [Act.put, List.setIfInBounds_toArray, List.set_cons_zero, List.set_cons_succ])
                  refine wpAnyB_take (i := 2) (v := ?_) rfl (by decide) (by kernel_rfl) (by kernel_rfl) (by kernel_rfl) (fun _ _ _ h => h) (Or.inl ⟨by rfl, ?hy2⟩) hS1 (fun _ => hT1) ?_
                  case hy2 => (intro W hSw; (try dsimp only at hSw); go_simp; try with_reducible rfl)

                  (try simp only [Act.put, List.setIfInBounds_toArray, List.set_cons_zero, List.set_cons_succ])
                  refine wpAnyB_take (i := 3) (v := ?_) rfl (by decide) (by kernel_rfl) (by kernel_rfl) (by kernel_rfl) (fun _ _ _ h => h) (Or.inl ⟨by rfl, ?hy3⟩) hS1 (fun _ => hT1) ?_
                  case hy3 => (intro W hSw; (try dsimp only at hSw); go_simp; try with_reducible rfl)

                  (try simp only [Act.put, List.setIfInBounds_toArray, List.set_cons_zero, List.set_cons_succ])
                  refine wpAnyB_take (i := 4) (v := ?_) rfl (by decide) (by kernel_rfl) (by kernel_rfl) (by kernel_rfl) (fun _ _ _ h => h) (Or.inl ⟨by rfl, ?hy4⟩) hS1 (fun _ => hT1) ?_
                  case hy4 => (intro W hSw; (try dsimp only at hSw); go_simp; try with_reducible rfl)

                  (try simp only [Act.put, List.setIfInBounds_toArray, List.set_cons_zero, List.set_cons_succ])
                  refine wpAnyB_take (i := 5) (v := ?_) rfl (by decide) (by kernel_rfl) (by kernel_rfl) (by kernel_rfl) (fun _ _ _ h => h) (Or.inl ⟨by rfl, ?hy5⟩) hS1 (fun _ => hT1) ?_
                  case hy5 => (intro W hSw; (try dsimp only at hSw); go_simp; try with_reducible rfl)

                  (try simp only [Act.put, List.setIfInBounds_toArray, List.set_cons_zero, List.set_cons_succ])
                  refine wpAnyB_take (i := 6) (v := ?_) rfl (by decide) (by kernel_rfl) (by kernel_rfl) (by kernel_rfl) (fun _ _ _ h => h) (Or.inl ⟨by rfl, ?hy6⟩) hS1 (fun _ => hT1) ?_
                  case hy6 => (intro W hSw; (try dsimp only at hSw); go_simp; try with_reducible rfl)

                  (try simp only [Act.put, List.setIfInBounds_toArray, List.set_cons_zero, List.set_cons_succ])
                  refine wpAnyB_ready (rs := [7]) (by kernel_rfl) (by simp) ?_
                  refine AllReadyB.cons rfl (fun K hK => ?_) AllReadyB.nil
                  go_simp
                  go_at_call 167
                  with_reducible refine HCALL.out.mono ?_
                  rintro e wA ⟨cs, G, rfl, hBA, hkA', hfrA, hfsA⟩
                  obtain ⟨cA, ccap, rfl⟩ := KtR_form hkA'
                  have hBu := below_undrew hBA
                  have hS6 : wA.cell? ⟨b5, off5 + k, none⟩ = some (.string cl[k]) := (hBu.cell hb5l).trans c0
                  have z61 : wA.cell? ⟨w8.heap.size, 1, none⟩ = some (.slice kA (ktsTo names cl k).length kcap) := (hBu.cell hkz).trans z1
                  have zf61 : wA.frozen? ⟨w8.heap.size, 1, none⟩ = false := (hBu.frozen hkz).trans zf1
                  have hkz6 : w8.heap.size < wA.heap.size := Nat.lt_of_lt_of_le hkz hBu.size
                  have HOA : Hid (Own wA (w8.heap.size + 1) 138 3 KtR (ktsTo names cl k) (.slice kA (ktsTo names cl k).length kcap) Fk) := HOk.out.below (fun x cs G hk h => KtR_mono' _ _ x cs G hk h) hBu
                  have HKA := Lib.hid hkA'
                  have HfrA := Lib.hid hfrA
                  have HfsA : Hid (∀ b ∈ G, wr.heap.size ≤ b ∧ b < wA.heap.size) := hfsA
                  clear hkA' hfrA hfsA
                  dsimp only
                  refine hK.out _ _ hS6 (fun _ => z61) ?_
                  clear hK K
                  (try simp only [Act.put, List.setIfInBounds_toArray, List.set_cons_zero, List.set_cons_succ])
                  refine wpAnyB_ready (rs := [8]) (by kernel_rfl) (by simp) ?_
                  refine AllReadyB.cons rfl (fun K hK => ?_) AllReadyB.nil
                  go_simp
                  refine hK.out _ _ ((World.cell?_alloc_lt _ _ _ (Nat.lt_of_lt_of_le hb5l hBu.size)).trans hS6) (fun _ => (World.cell?_alloc_lt _ _ _ hkz6).trans z61) ?_
                  clear hK K
                  (try simp only [Act.put, List.setIfInBounds_toArray, List.set_cons_zero, List.set_cons_succ])
                  refine wpAnyB_ready (rs := [9]) (by kernel_rfl) (by simp) ?_
                  refine AllReadyB.cons rfl (fun K hK => ?_) AllReadyB.nil
                  refine step_push1 (P := Try.prog) rfl _ _ 95 rfl i0 _ 48 Try.underlying95 HI.out HZ0.out HZ1.out HZ2.out rfl (by decide) KtR_len' KtR_mono' (by rfl) HOA.out c 138 [.string c.name, .slice cA c.args.length ccap, .int .i64 c.idx] G _ (by rfl) rfl (by simp [Value.oneCell']) HKA.out (fun b hb => (HfsA.out b hb).2) (fun g hg hG => Nat.lt_irrefl _ (Nat.lt_of_lt_of_le (HOk.out.row g hg).2 (HfsA.out g hG).1)) hmx hby (Nat.le_trans hwr8 hBu.size) ?_
                  intro g cp w7 hown7 hgr7 hat7
                  have s7 : w7.cell? ⟨b5, off5 + k, none⟩ = some (.string cl[k]) := (World.cell?_of_block (a := ⟨b5, off5 + k, none⟩) (grow_old HOk.out hBu hgr7 hb5w1 hb5l)).trans c0
                  have z71 : w7.cell? ⟨w8.heap.size, 1, none⟩ = some (.slice kA (ktsTo names cl k).length kcap) := (World.cell?_of_block (a := ⟨w8.heap.size, 1, none⟩) (grow_old HOk.out hBu hgr7 (Nat.lt_succ_self _) hkz)).trans z1
                  have zf71 : w7.frozen? ⟨w8.heap.size, 1, none⟩ = false := (World.frozen?_of_block (a := ⟨w8.heap.size, 1, none⟩) (grow_old HOk.out hBu hgr7 (Nat.lt_succ_self _) hkz)).trans zf1
                  refine hK.out _ _ s7 (fun _ => z71) ?_
                  clear hK K
                  (try simp only [Act.put, List.setIfInBounds_toArray, List.set_cons_zero, List.set_cons_succ])
                  refine wpAnyB_take (i := 10) (v := ?_) rfl (by decide) (by kernel_rfl) (by kernel_rfl) (by kernel_rfl) (fun _ _ _ h => h) (Or.inl ⟨by rfl, ?hy10⟩) s7 (fun _ => z71) ?_
                  case hy10 => (intro W hSw; (try dsimp only at hSw); go_simp; try with_reducible rfl)
                  (try simp only [Act.put, List.setIfInBounds_toArray, List.set_cons_zero, List.set_cons_succ])
                  refine wpAnyB_ready (rs := [11]) (by kernel_rfl) (by simp) ?_
                  refine AllReadyB.cons rfl (fun K hK => ?_) AllReadyB.nil
                  go_simp
                  refine hK.out _ _ ((World.cell?_setCell_far _ _ _ _ hb5n).trans s7) (fun h => by cases h) ?_
                  clear hK K
                  (try simp only [Act.put, List.setIfInBounds_toArray, List.set_cons_zero, List.set_cons_succ])
                  refine wpAnyB_end (by kernel_rfl) ?_
                  all_goals (
                    obtain ⟨r1, r2, r3, r4, r5, r6, r7⟩ := grow_round KtR_mono' hw9s KD.out HOk.out HFk.out HFkh.out HCk.out hB hHD8 (Nat.le_refl _) hBu HfrA.out HfsA.out hown7 hgr7
                    have R1 := Lib.hid r1
                    have R2 := Lib.hid r2
                    have R3 := Lib.hid r3
                    have R4 := Lib.hid r4
                    have R5 := Lib.hid r5
                    have R6 := Lib.hid r6
                    clear r1 r2 r3 r4 r5 r6 hown7 hgr7 hat7 hS1 hT1 hS6 s7 z61 zf61 z0 z1 zf1 z71 zf71 HOA HKA HfrA HfsA hBu hBA hkz6
                    go_wp2
                    go_roundw
                    case rel => exact ⟨k + 1, _, Fk ++ G, hk1, Nat.succ_le_succ hk2, by go_num, R1, by rw [HF2.out]; exact R2.out, R3, R4, R5, R6.out, r7⟩
                    case measure => (simp [intOf] <;> omega))
                · have hpd : Hid (pdt (namesOf ps) ps[i] = ⟨ps[i].1, ktsTo names cl k⟩) := by
                    unfold Hid pdt
                    rw [HNM.out, HCL.out, ktsTo_all names cl hk5 (by omega)]
                  have HF2 := Lib.hid (dtsTo_succ ps i hil)
                  have hdl : (dtsTo ps i).length ≤ 5 := Nat.le_trans (dtsTo_len ps i) (by omega)
                  have hOr : Hid (Own wr w.heap.size 97 2 DtR (dtsTo ps i) u4 Fo) := Own.mono (w := w9) (fun x cs G hk h => DtR_mono' _ _ x cs G hk h) HO9.out (HCk.out.kept (fun b hb => by have := HB8.out b hb; omega) (fun b hb => by have := HB8.out b hb; simp; omega)) HCk.out.size
                  have hFrr : Hid (Free wr Fo) := HFr9.out.kept (HCk.out.kept (fun b hb => by have := HB8.out b (List.mem_append.2 (.inr hb)); omega) (fun b hb => by have := HB8.out b (List.mem_append.2 (.inr hb)); simp; omega))
                  have hCr : Hid (Chg [w.heap.size] w6 wr) := HC9.out.trans_new HCk.out hw68
                  have harr := HOk.out.arr
                  have hfree := HOk.out.free HFk.out
                  have hrk := HOk.out.row
                  have hff : ∀ b ∈ (if ktsTo names cl k = [] then [] else rowOf (.slice kA (ktsTo names cl k).length kcap) ++ Fk), w8.heap.size + 1 ≤ b ∧ b < wr.heap.size := fun b hb => by
                    split at hb
                    · cases hb
                    · rcases List.mem_append.1 hb with h | h
                      · exact hrk b h
                      · exact ⟨HFkh.out b h, HOk.out.under b h⟩
                  generalize (if ktsTo names cl k = [] then [] else rowOf (.slice kA (ktsTo names cl k).length kcap) ++ Fk) = FF at harr hfree hff
                  have HFF := Lib.hid hff
                  have HFREE := Lib.hid hfree
                  have HDX : Hid (DtR wr ⟨ps[i].1, ktsTo names cl k⟩ [.string ps[i].1, .slice kA (ktsTo names cl k).length kcap] FF) := ⟨_, rfl, harr, (show ps[i].1.size ≤ 9223372036854775807 by omega)⟩
                  clear harr hfree hrk hff HOk HFk HFkh HO9 HFr9 HC9 HN9 HA9 HU8
                  have hbs : w.heap.size ≤ wr.heap.size := hB.size
                  by_cases hk5' : k < cl.length
                  · have u5 : decide ((k : Int) < (cl.length : Int)) = true := decide_eq_true (by omega)
                    have u6 : decide ((k : Int) ≤ 4) = false := decide_eq_false (by omega)
                    clear hlt
                    go_wp2_with (at_builtin; refine Halt.mk ?_)
                    refine Halt.of (wpList_push1 (P := Try.prog) rfl _ _ 30 rfl m0 _ 40 Try.underlying30 HM.out HM0.out HM1.out HM2.out rfl (by decide) DtR_len' DtR_mono' (by rfl) hOr.out ⟨ps[i].1, ktsTo names cl k⟩ 97 [.string ps[i].1, .slice kA (ktsTo names cl k).length kcap] FF _ (by rfl) (by simp) (by simp [Value.oneCell']) HDX.out (fun b hb => (HFF.out b hb).2) (fun g hg hG => by have h1 := HB8.out g (List.mem_append.2 (.inl hg)); have h2 := (HFF.out g hG).1; omega) (by unfold maxLen; omega) (by omega) hbs ?_)
                    intro g cp w7 hown7 hgr7 hat7
                    obtain ⟨r1, r2, r3, r4, r5, r6⟩ := push_round (n := (dtsTo ps i).length + 1) (cp := cp) hOr.out hFrr.out HFREE.out HB8.out HFF.out HR.out hCr.out hB (Nat.le_refl _) HFh.out hw68 hgr7 hat7
                    have HFr7 := Lib.hid r1
                    have HFh7 := Lib.hid r2
                    have HR7 := Lib.hid r3
                    have HC7 := Lib.hid r4
                    have HB7 := Lib.hid r5
                    clear r1 r2 r3 r4 r5
                    have HO7 := Lib.hid hown7
                    have HEQ : Hid (dtsTo ps (i + 1) = dtsTo ps i ++ [⟨ps[i].1, ktsTo names cl k⟩]) := by unfold Hid; rw [HF2.out, hpd.out]
                    clear hown7 hgr7 hat7
                    go_wp2
                    go_roundw
                    case rel => exact ⟨i + 1, Fo ++ FF, by omega, by go_num, by rw [HEQ.out]; exact HO7.out, HFr7, HFh7, HR7, HC7, HB7.out, r6⟩
                    case measure => (simp [intOf] <;> omega)
                  · have u5 : decide ((k : Int) < (cl.length : Int)) = false := decide_eq_false (by omega)
                    clear hlt
                    go_wp2_with (at_builtin; refine Halt.mk ?_)
                    refine Halt.of (wpList_push1 (P := Try.prog) rfl _ _ 30 rfl m0 _ 40 Try.underlying30 HM.out HM0.out HM1.out HM2.out rfl (by decide) DtR_len' DtR_mono' (by rfl) hOr.out ⟨ps[i].1, ktsTo names cl k⟩ 97 [.string ps[i].1, .slice kA (ktsTo names cl k).length kcap] FF _ (by rfl) (by simp) (by simp [Value.oneCell']) HDX.out (fun b hb => (HFF.out b hb).2) (fun g hg hG => by have h1 := HB8.out g (List.mem_append.2 (.inl hg)); have h2 := (HFF.out g hG).1; omega) (by unfold maxLen; omega) (by omega) hbs ?_)
                    intro g cp w7 hown7 hgr7 hat7
                    obtain ⟨r1, r2, r3, r4, r5, r6⟩ := push_round (n := (dtsTo ps i).length + 1) (cp := cp) hOr.out hFrr.out HFREE.out HB8.out HFF.out HR.out hCr.out hB (Nat.le_refl _) HFh.out hw68 hgr7 hat7
                    have HFr7 := Lib.hid r1
                    have HFh7 := Lib.hid r2
                    have HR7 := Lib.hid r3
                    have HC7 := Lib.hid r4
                    have HB7 := Lib.hid r5
                    clear r1 r2 r3 r4 r5
                    have HO7 := Lib.hid hown7
                    have HEQ : Hid (dtsTo ps (i + 1) = dtsTo ps i ++ [⟨ps[i].1, ktsTo names cl k⟩]) := by unfold Hid; rw [HF2.out, hpd.out]
                    clear hown7 hgr7 hat7
                    go_wp2
                    go_roundw
                    case rel => exact ⟨i + 1, Fo ++ FF, by omega, by go_num, by rw [HEQ.out]; exact HO7.out, HFr7, HFh7, HR7, HC7, HB7.out, r6⟩
                    case measure => (simp [intOf] <;> omega)
            · have HPS : Hid (parseS text = some (dtsTo ps i)) := by unfold Hid; rw [HPS0.out, dtsTo_all ps (by omega)]
              have u3 : decide ((i : Int) < (names.length : Int)) = false := decide_eq_false (by have := HNL.out; omega)
              have HFh2 : Hid (∀ b ∈ Fo, w.heap.size ≤ b) := fun b hb => by have := HFh.out b hb; omega
              clear HFh
              have HFh := HFh2
              have hil3 : ¬ i < names.length := by have := HNL.out; omega
              clear HFh2 hil
              have harr := HO.out.arr
              have hfree := HO.out.free HFr.out
              have hfresh := Own.fresh (w0 := w) HO.out (Nat.le_refl _) HFh.out
              generalize (if (dtsTo ps i) = [] then [] else rowOf (u4) ++ Fo) = FF at harr hfree hfresh
              have HARR := Lib.hid harr
              have HFREE := Lib.hid hfree
              have HFRESH := Lib.hid hfresh
              clear harr hfree hfresh HO HFr HFh
              generalize hxx : (dtsTo ps i) = xx at *
              clear hxx
              go_wp2_with fail
              refine (spec_WorldValid xx wr _ FF HARR.out HFRESH.out.under).mono ?_
              rintro e w8 ⟨rfl, hb8⟩
              have hB8 := hB.trans (hb8.mono hB.size)
              cases e1 : worldOk xx with
              | false =>
                have HNO := Lib.hid (parseB_no HPS.out e1)
                clear e1
                have hfin : GivesWorld w (parseB text) (.returned (.tuple #[.slice (some ⟨w8.heap.size, 0, none⟩) 0 0, .bool false])) (w8.alloc (.cells #[] 97)) := by
                  rw [HNO.out]
                  exact ⟨_, [], rfl, hB8.alloc hB8.size _, ⟨_, _, rfl, by simp, by simp [maxLen], .inl ⟨rfl, rfl⟩⟩, Free.nil _, Fresh.nil _ _⟩
                have HFin := Lib.hid hfin
                clear hfin
                go_wp2
                go_ret2
                exact HFin.out
              | true =>
                have HW := Lib.hid (worldOK e1)
                have HE1 := Lib.hid e1
                clear e1
                have HA8 := Lib.hid (ArrDt.below HARR.out hb8 HFRESH.out.under)
                have hF8 := Lib.hid (HFRESH.out.under.mono hb8.size)
                go_wp2_with fail
                refine (spec_l1Text xx HW.out w8 _ FF HA8.out hF8.out).mono ?_
                rintro e w9 ⟨rfl, hb9⟩
                have hB9 := hB8.trans (hb9.mono hB8.size)
                have hb89 := hb8.trans (hb9.mono hb8.size)
                generalize htt : bs (textT xx) = tt
                cases e2 : (tt.toList == text.toList) with
                | true =>
                  have HYES : Hid (parseB text = some xx) := parseB_yes HPS.out HE1.out (by rw [beq_iff_eq, toList_tl, toList_tl, ← htt, tl_bs] at e2; exact e2)
                  have hfin : GivesWorld w (parseB text) (.returned (.tuple #[u4, .bool true])) w9 := by
                    rw [HYES.out]
                    exact ⟨_, FF, rfl, hB9, ArrDt.below HARR.out hb89 HFRESH.out.under, HFREE.out.kept (.of_below hb89 HFRESH.out.under), fun b hb => ⟨(HFRESH.out b hb).1, Nat.lt_of_lt_of_le (HFRESH.out b hb).2 hb89.size⟩⟩
                  have HFin := Lib.hid hfin
                  clear hfin htt
                  go_wp2
                  go_ret2
                  exact HFin.out
                | false =>
                  have HNO : Hid (parseB text = none) := parseB_text HPS.out (fun h => by rw [beq_eq_false_iff_ne, toList_tl, toList_tl, ← htt, tl_bs] at e2; exact e2 h)
                  clear htt
                  have hfin : GivesWorld w (parseB text) (.returned (.tuple #[.slice (some ⟨w9.heap.size, 0, none⟩) 0 0, .bool false])) (w9.alloc (.cells #[] 97)) := by
                    rw [HNO.out]
                    exact ⟨_, [], rfl, hB9.alloc hB9.size _, ⟨_, _, rfl, by simp, by simp [maxLen], .inl ⟨rfl, rfl⟩⟩, Free.nil _, Fresh.nil _ _⟩
                  have HFin := Lib.hid hfin
                  clear hfin
                  go_wp2
                  go_ret2
                  exact HFin.out
end Go.Proofs.Ytilndhmegaccmaa

namespace Go.Proofs.Ytilndhmegaccmaa
open Go.RowKit

def eightT : List ByteArray := (sevenT ++ [[]]).map bs

set_option maxRecDepth 100000 in
set_option maxHeartbeats 1600000 in
theorem spec_l1Texts (w : World) : Calls Try.prog 150 #[] w fun e w' => e = .returned (.slice (some ⟨w.heap.size, 0, none⟩) 8 8) ∧ w' = w.alloc (.cells (eightT.map Value.string).toArray 9) := by
  go_enter Try.func150, Try.ntmps150
  go_wp2
  go_ret
  exact ⟨rfl, rfl⟩
theorem seven_at {r : Nat} (h : r < 7) : ∃ t, eightT[r]? = some (bs t) ∧ t ∈ sevenT ∧ (bs t).size ≤ 100 := by
  have key : ∀ r : Fin 7, ∃ t, eightT[r.1]? = some (bs t) ∧ t ∈ sevenT ∧ (bs t).size ≤ 100 := by
    intro ⟨r, hr⟩
    have h7 : sevenT.length = 7 := rfl
    have hr7 : r < sevenT.length := by omega
    refine ⟨sevenT[r], ?_, List.getElem_mem hr7, ?_⟩
    · unfold eightT
      rw [List.getElem?_map, List.getElem?_append_left hr7, List.getElem?_eq_getElem hr7]; rfl
    · have hall : ∀ t ∈ sevenT, t.length ≤ 100 := by decide
      exact hall _ (List.getElem_mem hr7)
  exact key ⟨r, h⟩
theorem seven_parse {t : List UInt8} (h : t ∈ sevenT) : ∃ xs, parseB (bs t) = some xs ∧ worldOk xs = true ∧ 0 < xs.length := by
  have := List.all_eq_true.1 sevenT_fine t h
  exact fineW_ex this
/-- a world that the call has made, of the shape that drawn worlds have -/
def DrewWorld (g p n : Nat) (w : World) (Q : List Dt → Prop) (e : Ending) (w' : World) : Prop := ∃ xs v F q, e = .returned v ∧ Q xs ∧ Arr w' (DtR w') xs v F ∧ Fresh w w' F ∧ Rd w' g q ∧ q ≤ p + n ∧ Chg [g] w w'

set_option maxRecDepth 100000 in
set_option maxHeartbeats 1600000 in
theorem spec_l1WorldQ (Q : List Dt → Prop) (hQ : ∀ t ∈ sevenT, ∃ xs, parseB (bs t) = some xs ∧ Q xs) (p g : Nat) (w : World) (h : Rd w g p) (hp : p ≤ 900000) : Calls Try.prog 120 #[.pointer (some ⟨g, 0, none⟩)] w (DrewWorld g p 1 w Q) := by
  have HR0 := Lib.hid h
  have hgl := h.lt
  clear h
  go_enter Try.func120, Try.ntmps120
  go_wp2_with fail
  refine (spec_l1Texts w).mono ?_
  rintro e w1 ⟨rfl, hw1⟩
  have hb1 : Below w.heap.size w w1 := by rw [hw1]; exact (Below.refl _ _).alloc (Nat.le_refl _) _
  have hk1 : Blk w1 w.heap.size 9 (eightT.map Value.string).toArray := by rw [hw1]; exact Blk.new _ _ _
  have HR1 := Lib.hid (HR0.out.below hb1)
  have HK1 := Lib.hid hk1
  clear hw1 hk1
  go_wp2_with fail
  refine (pick_any 7 p g w1 HR1.out (by omega) (by omega) (by omega)).mono ?_
  rintro e w2 ⟨r, rfl, hr, hR2, hC2⟩
  obtain ⟨t, ht, htm, htl⟩ := seven_at hr
  have hlt1 := HK1.out.lt
  have c1 : w1.cell? ⟨w.heap.size, r, none⟩ = some (.string (bs t)) := (HK1.out.cell r).trans (by simp [ht])
  have c2 : w2.cell? ⟨w.heap.size, r, none⟩ = some (.string (bs t)) := (hC2.cell hlt1 (by simp; omega)).trans c1
  obtain ⟨xs, hxp, hxo⟩ := hQ t htm
  have HXP := Lib.hid hxp
  have HXO := Lib.hid hxo
  have HR2 := Lib.hid hR2
  have HC2 := Lib.hid hC2
  have g1 : (0 : Int) ≤ (r : Int) := by omega
  have g2 : (r : Int) < 8 := by omega
  have hsz2 := hC2.size
  clear hxp hxo hR2 hC2 c1 ht htm
  generalize hT : bs t = T at *
  clear hT
  go_wp2_with fail
  refine (spec_ParseWorld T (by omega) w2).mono ?_
  rintro e w3 ⟨v3, F3, rfl, hb3, ha3, -, hfs3⟩
  rw [HXP.out] at ha3 ⊢
  have hfin : DrewWorld g p 1 w Q (.returned v3) w3 :=
    ⟨xs, v3, F3, p + 1, rfl, HXO.out, ha3, fun b hb => ⟨Nat.le_trans (Nat.le_trans hb1.size hsz2) (hfs3 b hb).1, (hfs3 b hb).2⟩, HR2.out.below hb3, Nat.le_refl _, ((Chg.of_below hb1).trans HC2.out).step hb3⟩
  have HFin := Lib.hid hfin
  clear hfin ha3 hfs3 hb3
  go_wp2
  go_ret
  exact HFin.out
theorem spec_l1World (p g : Nat) (w : World) (h : Rd w g p) (hp : p ≤ 900000) : Calls Try.prog 120 #[.pointer (some ⟨g, 0, none⟩)] w (DrewWorld g p 1 w (fun xs => worldOk xs = true ∧ 0 < xs.length)) :=
  spec_l1WorldQ _ (fun _ ht => by obtain ⟨xs, h1, h2, h3⟩ := seven_parse ht; exact ⟨xs, h1, h2, h3⟩) p g w h hp
end Go.Proofs.Ytilndhmegaccmaa

namespace Go.Proofs.Ytilndhmegaccmaa
open Go.RowKit

theorem Chg.set_new {F : List Nat} {w w2 : World} {b j : Nat} {u : Value} (h : Chg F w w2) (hb : w.heap.size ≤ b) : Chg F w (w2.setCell ⟨b, j, none⟩ u) :=
  ⟨h.os, h.tape, h.output, Nat.le_trans h.size (by simp [World.setCell]), fun c hc hF => (Below.heap_setCell _ _ _ _ (by show c ≠ b; omega)).trans (h.block c hc hF)⟩
/-- what l1Some gives -/
def DrewTy (g p n : Nat) (w : World) (e : Ending) (w' : World) : Prop := ∃ (t : Ty) (q : Nat), e = .returned (.agg #[.int .i64 t.d, .int .i64 t.i]) ∧ Rd w' g q ∧ q ≤ p + n ∧ Chg [g] w w'
set_option maxRecDepth 100000 in
set_option maxHeartbeats 1600000 in
theorem spec_l1Some (p g : Nat) (w : World) (h : Rd w g p) (hp : p ≤ 900000) (A : Option Addr) (n cap : Nat) (hn : 1 ≤ n) (hn2 : n ≤ 1000) : Calls Try.prog 55 #[.pointer (some ⟨g, 0, none⟩), .slice A n cap] w (DrewTy g p 4 w) := by
  have hgl := h.lt
  have hb1 : Below w.heap.size w (w.alloc (.cells #[.int .i64 0, .int .i64 0] 32)) := (Below.refl _ _).alloc (Nat.le_refl _) _
  have HR0 : Hid (Rd (w.alloc (.cells #[.int .i64 0, .int .i64 0] 32)) g p) := h.below hb1
  have HC0 : Hid (Chg [g] w (w.alloc (.cells #[.int .i64 0, .int .i64 0] 32))) := .of_below hb1
  have KH0 : Hid (Blk (w.alloc (.cells #[.int .i64 0, .int .i64 0] 32)) w.heap.size 32 #[.int .i64 0, .int .i64 0]) := Blk.new _ _ _
  clear h
  go_enter Try.func55, Try.ntmps55
  go_wp2_with fail
  obtain ⟨w1, hw1⟩ : ∃ w1, w1 = (w.alloc (.cells #[.int .i64 0, .int .i64 0] 32)) := ⟨_, rfl⟩
  rw [← hw1] at HR0 HC0 KH0 hb1 ⊢
  clear hw1
  refine (pick_any 16 p g w1 HR0.out (by omega) (by omega) (by omega)).mono ?_
  rintro e w2 ⟨r, rfl, hr, hR2, hC2⟩
  have HR2 := Lib.hid hR2
  have HC2 := Lib.hid (HC0.out.trans hC2)
  have KH2 := Lib.hid (KH0.out.same (hC2.block _ KH0.out.lt (by simp; omega)))
  clear hR2 hC2
  cases q0 : ((r : Int) == 0) with
  | true =>
    go_wp2_with fail
    refine (num_lit [-1, -2, 9, 0] (by decide) (by decide) (p + 1) g w2 HR2.out (by omega)).mono ?_
    rintro e w3 ⟨x3, hx3, rfl, hR3, hC3⟩
    have HR3 := Lib.hid hR3
    have HC3 := Lib.hid (HC2.out.trans hC3)
    have KH3 := Lib.hid (KH2.out.same (hC3.block _ KH2.out.lt (by simp; omega)))
    clear hR3 hC3 hx3
    go_wp2_with fail
    refine (num_lit [0, 1, -1, 4] (by decide) (by decide) (p + 1 + 1) g w3 HR3.out (by omega)).mono ?_
    rintro e w4 ⟨x4, hx4, rfl, hR4, hC4⟩
    have HR4 := Lib.hid hR4
    have HC4 := Lib.hid (HC3.out.trans hC4)
    have KH4 := Lib.hid (KH3.out.same (hC4.block _ KH3.out.lt (by simp; omega)))
    clear hR4 hC4 hx4
    have k0 : w4.cell? ⟨w.heap.size, 0, none⟩ = some (.int .i64 0) := (KH4.out.cell 0).trans (by simp)
    have k1 : w4.cell? ⟨w.heap.size, 1, none⟩ = some (.int .i64 0) := (KH4.out.cell 1).trans (by simp)
    have f0 := KH4.out.frozen 0
    have f1 := KH4.out.frozen 1
    have KF : Hid (Blk ((w4.setCell ⟨w.heap.size, 0, none⟩ (.int .i64 (x3))).setCell ⟨w.heap.size, 1, none⟩ (.int .i64 (x4))) w.heap.size 32 #[.int .i64 (x3), .int .i64 (x4)]) := (KH4.out.set_ 0 _).set_ 1 _
    have hC5 : Chg [g] w ((w4.setCell ⟨w.heap.size, 0, none⟩ (.int .i64 (x3))).setCell ⟨w.heap.size, 1, none⟩ (.int .i64 (x4))) := (Chg.set_new HC4.out (Nat.le_refl _)).set_new (Nat.le_refl _)
    have hRd : Rd ((w4.setCell ⟨w.heap.size, 0, none⟩ (.int .i64 (x3))).setCell ⟨w.heap.size, 1, none⟩ (.int .i64 (x4))) g (p + 1 + 1 + 1) := (HR4.out.set hgl).set hgl
    have hfin : DrewTy g p 4 w (.returned (.agg #[.int .i64 (x3), .int .i64 (x4)])) ((w4.setCell ⟨w.heap.size, 0, none⟩ (.int .i64 (x3))).setCell ⟨w.heap.size, 1, none⟩ (.int .i64 (x4))) := ⟨⟨x3, x4⟩, p + 1 + 1 + 1, rfl, hRd, by omega, hC5⟩
    have HFin := Lib.hid hfin
    clear hfin hRd hC5
    go_wp2
    refine bodyPost_ret (results_cell_row rfl _ _ w.heap.size 32 #[.int .i64 (x3), .int .i64 (x4)] (0, 0) _ rfl KF.out Try.underlying32 rfl rfl) rfl ?_
    exact HFin.out
  | false =>
    go_wp2_with fail
    refine (pick_any 8 (p + 1) g w2 HR2.out (by omega) (by omega) (by omega)).mono ?_
    rintro e w3 ⟨r3, rfl, hr3, hR3, hC3⟩
    have HR3 := Lib.hid hR3
    have HC3 := Lib.hid (HC2.out.trans hC3)
    have KH3 := Lib.hid (KH2.out.same (hC3.block _ KH2.out.lt (by simp; omega)))
    clear hR3 hC3
    cases q3 : ((r3 : Int) == 0) with
    | true =>
      have k0 : w3.cell? ⟨w.heap.size, 0, none⟩ = some (.int .i64 0) := (KH3.out.cell 0).trans (by simp)
      have k1 : w3.cell? ⟨w.heap.size, 1, none⟩ = some (.int .i64 0) := (KH3.out.cell 1).trans (by simp)
      have f0 := KH3.out.frozen 0
      have f1 := KH3.out.frozen 1
      have KF : Hid (Blk ((w3.setCell ⟨w.heap.size, 0, none⟩ (.int .i64 (-1))).setCell ⟨w.heap.size, 1, none⟩ (.int .i64 (0))) w.heap.size 32 #[.int .i64 (-1), .int .i64 (0)]) := (KH3.out.set_ 0 _).set_ 1 _
      have hC5 : Chg [g] w ((w3.setCell ⟨w.heap.size, 0, none⟩ (.int .i64 (-1))).setCell ⟨w.heap.size, 1, none⟩ (.int .i64 (0))) := (Chg.set_new HC3.out (Nat.le_refl _)).set_new (Nat.le_refl _)
      have hRd : Rd ((w3.setCell ⟨w.heap.size, 0, none⟩ (.int .i64 (-1))).setCell ⟨w.heap.size, 1, none⟩ (.int .i64 (0))) g (p + 1 + 1) := (HR3.out.set hgl).set hgl
      have hfin : DrewTy g p 4 w (.returned (.agg #[.int .i64 (-1), .int .i64 (0)])) ((w3.setCell ⟨w.heap.size, 0, none⟩ (.int .i64 (-1))).setCell ⟨w.heap.size, 1, none⟩ (.int .i64 (0))) := ⟨⟨-1, 0⟩, p + 1 + 1, rfl, hRd, by omega, hC5⟩
      have HFin := Lib.hid hfin
      clear hfin hRd hC5
      go_wp2
      refine bodyPost_ret (results_cell_row rfl _ _ w.heap.size 32 #[.int .i64 (-1), .int .i64 (0)] (0, 0) _ rfl KF.out Try.underlying32 rfl rfl) rfl ?_
      exact HFin.out
    | false =>
      go_wp2_with fail
      refine (pick_any n (p + 1 + 1) g w3 HR3.out (by omega) hn (by omega)).mono ?_
      rintro e w4 ⟨r4, rfl, hr4, hR4, hC4⟩
      have HR4 := Lib.hid hR4
      have HC4 := Lib.hid (HC3.out.trans hC4)
      have KH4 := Lib.hid (KH3.out.same (hC4.block _ KH3.out.lt (by simp; omega)))
      clear hR4 hC4
      go_wp2_with fail
      refine (num_lit [0, 0, 1, 2, 0, 3] (by decide) (by decide) (p + 1 + 1 + 1) g w4 HR4.out (by omega)).mono ?_
      rintro e w5 ⟨x5, hx5, rfl, hR5, hC5⟩
      have HR5 := Lib.hid hR5
      have HC5 := Lib.hid (HC4.out.trans hC5)
      have KH5 := Lib.hid (KH4.out.same (hC5.block _ KH4.out.lt (by simp; omega)))
      clear hR5 hC5 hx5
      have k0 : w5.cell? ⟨w.heap.size, 0, none⟩ = some (.int .i64 0) := (KH5.out.cell 0).trans (by simp)
      have k1 : w5.cell? ⟨w.heap.size, 1, none⟩ = some (.int .i64 0) := (KH5.out.cell 1).trans (by simp)
      have f0 := KH5.out.frozen 0
      have f1 := KH5.out.frozen 1
      have KF : Hid (Blk ((w5.setCell ⟨w.heap.size, 0, none⟩ (.int .i64 ((r4 : Int)))).setCell ⟨w.heap.size, 1, none⟩ (.int .i64 (x5))) w.heap.size 32 #[.int .i64 ((r4 : Int)), .int .i64 (x5)]) := (KH5.out.set_ 0 _).set_ 1 _
      have hC5 : Chg [g] w ((w5.setCell ⟨w.heap.size, 0, none⟩ (.int .i64 ((r4 : Int)))).setCell ⟨w.heap.size, 1, none⟩ (.int .i64 (x5))) := (Chg.set_new HC5.out (Nat.le_refl _)).set_new (Nat.le_refl _)
      have hRd : Rd ((w5.setCell ⟨w.heap.size, 0, none⟩ (.int .i64 ((r4 : Int)))).setCell ⟨w.heap.size, 1, none⟩ (.int .i64 (x5))) g (p + 1 + 1 + 1 + 1) := (HR5.out.set hgl).set hgl
      have hfin : DrewTy g p 4 w (.returned (.agg #[.int .i64 ((r4 : Int)), .int .i64 (x5)])) ((w5.setCell ⟨w.heap.size, 0, none⟩ (.int .i64 ((r4 : Int)))).setCell ⟨w.heap.size, 1, none⟩ (.int .i64 (x5))) := ⟨⟨(r4 : Int), x5⟩, p + 1 + 1 + 1 + 1, rfl, hRd, by omega, hC5⟩
      have HFin := Lib.hid hfin
      clear hfin hRd hC5
      go_wp2
      refine bodyPost_ret (results_cell_row rfl _ _ w.heap.size 32 #[.int .i64 ((r4 : Int)), .int .i64 (x5)] (0, 0) _ rfl KF.out Try.underlying32 rfl rfl) rfl ?_
      exact HFin.out
end Go.Proofs.Ytilndhmegaccmaa

namespace Go.Proofs.Ytilndhmegaccmaa
open Go.RowKit

theorem Rd.same {w w' : World} {g p : Nat} (h : Rd w g p) (hk : ∀ b, b ≤ g → w'.heap[b]? = w.heap[b]?) : Rd w' g p := by
  obtain ⟨A, cap, bs, F, h1, h2, h3, h5⟩ := h
  exact ⟨A, cap, bs, F, h1.same (hk g (Nat.le_refl _)), ArrBy.mono h2 (fun c hc => hk c (Nat.le_of_lt (h3 c hc))), h3, h5⟩
theorem Rd.low {w w' : World} {g p B : Nat} (h : Rd w g p) (hb : Below B w w') (hg : g < B) : Rd w' g p := h.same fun b hb' => hb.block b (by omega)
theorem SmallW.set {n : Nat} {xs : List Dt} {d : Nat} {y : Dt} (h : SmallW n xs) (h1 : y.ctors.length ≤ n) (h2 : ∀ c ∈ y.ctors, c.args.length ≤ n) : SmallW n (xs.set d y) := fun x hx => by
  rcases List.mem_or_eq_of_mem_set hx with hx | rfl
  · exact h x hx
  · exact ⟨h1, h2⟩
theorem SmallW.mono {n m : Nat} {xs : List Dt} (h : SmallW n xs) (hm : n ≤ m) : SmallW m xs := fun x hx => ⟨Nat.le_trans (h x hx).1 hm, fun c hc => Nat.le_trans ((h x hx).2 c hc) hm⟩

/-- the copy in the walk of l1Mutate: w is the world at the call, w1 the world now -/
structure Cpy (g q : Nat) (xs : List Dt) (v : Value) (F : List Nat) (w w1 : World) : Prop where
  rd : Rd w1 g q
  chg : Chg [g] w w1
  own : Own w1 w.heap.size 97 2 DtO xs v F
  free : Free w1 F
  fresh : ∀ b ∈ F, w.heap.size ≤ b
  lt : g < w.heap.size
/-- what l1Mutate gives -/
def Mutd (g p m : Nat) (xs : List Dt) (w : World) (e : Ending) (w' : World) : Prop := DrewWorld g p 10 w (fun ys => 0 < ys.length ∧ ys.length ≤ xs.length + 1 ∧ SmallW (m + 1) ys) e w'

section
variable {g q p m : Nat} {xs : List Dt} {v : Value} {F : List Nat} {w w1 w2 : World}
theorem Cpy.step {q' : Nat} (h : Cpy g q xs v F w w1) (hr : Rd w2 g q') (hc : Chg [g] w1 w2) : Cpy g q' xs v F w w2 := by
  have hu := h.own.under
  have hro := h.own.row
  have hlt := h.lt
  refine ⟨hr, h.chg.trans hc, h.own.mono (fun x cs G hk h => DtO_mono _ _ x cs G hk h) (hc.kept (fun b hb => ?_) (fun b hb => ?_)) hc.size, h.free.kept (hc.kept hu (fun b hb => ?_)), h.fresh, hlt⟩
  · rcases List.mem_append.1 hb with h1 | h1
    · exact (hro b h1).2
    · exact hu b h1
  · rw [List.mem_singleton]
    rcases List.mem_append.1 hb with h1 | h1
    · have := (hro b h1).1; omega
    · have := h.fresh b h1; omega
  · rw [List.mem_singleton]
    have := h.fresh b hb; omega
theorem Cpy.drew (h : Cpy g q xs v F w w1) : Cpy g q xs v F w w1.drew := h.step h.rd (Chg.refl _ _).drew
theorem Cpy.arr (h : Cpy g q xs v F w w1) : ∃ FF, Arr w1 (DtO w1) xs v FF ∧ Free w1 FF ∧ ∀ b ∈ FF, w.heap.size ≤ b ∧ b < w1.heap.size := by
  refine ⟨_, h.own.arr, h.own.free h.free, fun b hb => ?_⟩
  split at hb
  · cases hb
  · rcases List.mem_append.1 hb with h1 | h1
    · exact h.own.row b h1
    · exact ⟨h.fresh b h1, h.own.under b h1⟩
theorem Mutd.of {ys : List Dt} {q' : Nat} {G : List Nat} (h : Arr w1 (DtR w1) ys v G) (hG : ∀ b ∈ G, w.heap.size ≤ b ∧ b < w1.heap.size) (hr : Rd w1 g q') (hq : q' ≤ p + 10) (hc : Chg [g] w w1) (h0 : 0 < ys.length) (hl : ys.length ≤ xs.length + 1) (hs : SmallW (m + 1) ys) : Mutd g p m xs w (.returned v) w1 :=
  ⟨ys, v, G, q', rfl, ⟨h0, hl, hs⟩, h, hG, hr, hq, hc⟩
theorem Cpy.done (h : Cpy g q xs v F w w1) (h0 : 0 < xs.length) (hs : SmallW m xs) (hq : q ≤ p + 10) : Mutd g p m xs w (.returned v) w1 := by
  obtain ⟨FF, ha, -, hF⟩ := h.arr
  obtain ⟨G, hG, ha'⟩ := ArrDtO.toR ha
  exact Mutd.of ha' (fun b hb => hF b (hG b hb)) h.rd hq h.chg h0 (Nat.le_succ _) (hs.mono (by omega))
/-- a data type in view -/
theorem Cpy.data {b off n cap d : Nat} (h : Cpy g q xs (.slice (some ⟨b, off, none⟩) n cap) F w w1) (h0 : 0 < xs.length) (hs : SmallW m xs) (hd : d < xs.length) :
    ∃ kA kcap F2, w1.cell? ⟨b, off + d * 2, none⟩ = some (.string xs[d].name) ∧ w1.cell? ⟨b, off + d * 2 + 1, none⟩ = some (.slice kA xs[d].ctors.length kcap) ∧ (∀ j, w1.frozen? ⟨b, j, none⟩ = false) ∧ w.heap.size ≤ b ∧ b < w1.heap.size ∧ xs[d].ctors.length ≤ kcap ∧ kcap ≤ 9223372036854775807 ∧
      DtO w1 xs[d] [.string xs[d].name, .slice kA xs[d].ctors.length kcap] F2 ∧ (∀ x ∈ F2, x ≠ b ∧ w.heap.size ≤ x ∧ x < w1.heap.size) ∧
      (∀ s : ByteArray, s.size ≤ 1000 → q ≤ p + 10 → Mutd g p m xs w (.returned (.slice (some ⟨b, off, none⟩) n cap)) (w1.setCell ⟨b, off + d * 2, none⟩ (.string s))) ∧
      (∀ E, q ≤ p + 10 → Mutd g p m xs w (.returned (.slice (some ⟨b, off, none⟩) n cap)) ((w1.setCell ⟨b, off + d * 2 + 1, none⟩ (.slice (some ⟨w1.heap.size, 0, none⟩) 0 0)).alloc (.cells #[] E))) := by
  obtain ⟨FF, ha, hfr, hF⟩ := h.arr
  obtain ⟨b', off', cap', kv, F2, e, hbF, hF2, hz, hn, hk, hkv, hns, H⟩ := put1 ha hfr hd
  cases e
  obtain ⟨kA, kcap, rfl, hc1, hc2⟩ := hkv.form
  have hb := hF _ hbF
  have hg := h.lt
  have hsd := hs _ (List.getElem_mem hd)
  refine ⟨kA, kcap, F2, hn, hk, hz, hb.1, hb.2, hc1, hc2, ⟨_, rfl, hkv, hns⟩, fun x hx => ⟨(hF2 x hx).2, hF x (hF2 x hx).1⟩, fun s hss hq => ?_, fun E hq => ?_⟩
  · obtain ⟨G, hG, hka⟩ := (hkv.mono (w' := w1.setCell ⟨b, off + d * 2, none⟩ (.string s)) (R' := KtO (w1.setCell ⟨b, off + d * 2, none⟩ (.string s))) (fun c hc => Below.heap_setCell _ _ _ _ (hF2 c hc).2) (fun y _ cs G hk h => KtO_mono _ _ y cs G hk h)).weaken fun _ _ _ h => KtO.toR h
    obtain ⟨F', hF', har⟩ := H _ s xs[d].ctors (.slice kA xs[d].ctors.length kcap) G (fun j hj => World.cell?_setCell_other _ _ _ _ (by intro e; injection e; omega)) (fun x hx hxb => Below.heap_setCell _ _ _ _ hxb)
      (World.cell?_setCell_same _ _ _ hn) ((World.cell?_setCell_other _ _ _ _ (by intro e; injection e; omega)).trans hk) hka (by omega)
    refine Mutd.of har (fun x hx => ?_) (h.rd.set (by omega)) hq (h.chg.set_new hb.1) (by rw [List.length_set]; exact h0) (by rw [List.length_set]; exact Nat.le_succ _) ((hs.mono (by omega)).set (by simpa using Nat.le_trans hsd.1 (by omega)) (fun c hc => Nat.le_trans (hsd.2 c hc) (by omega)))
    have hsz : (w1.setCell ⟨b, off + d * 2, none⟩ (.string s)).heap.size = w1.heap.size := by simp [World.setCell]
    rw [hsz]
    rcases hF' x hx with h1 | h1
    · exact hF x h1
    · exact hF x (hF2 x (hG x h1)).1
  · rw [← World.setCell_alloc_past _ _ _ _ hb.2]
    have hblk : ∀ x, x < w1.heap.size → x ≠ b → ((w1.alloc (.cells #[] E)).setCell ⟨b, off + d * 2 + 1, none⟩ (.slice (some ⟨w1.heap.size, 0, none⟩) 0 0)).heap[x]? = w1.heap[x]? := fun x hx hxb => (Below.heap_setCell _ _ _ _ hxb).trans (Below.heap_alloc _ _ _ hx)
    have hce : ∀ j, (w1.alloc (.cells #[] E)).cell? ⟨b, j, none⟩ = w1.cell? ⟨b, j, none⟩ := fun j => World.cell?_alloc_lt _ _ _ hb.2
    obtain ⟨F', hF', har⟩ := H _ xs[d].name [] (.slice (some ⟨w1.heap.size, 0, none⟩) 0 0) [] (fun j hj => (World.cell?_setCell_other _ _ _ _ (by intro e; injection e; omega)).trans (hce j)) (fun x hx hxb => hblk x (hF x hx).2 hxb)
      ((World.cell?_setCell_other _ _ _ _ (by intro e; injection e; omega)).trans ((hce _).trans hn)) (World.cell?_setCell_same _ _ _ ((hce _).trans hk)) ⟨_, _, rfl, by simp, by simp [maxLen], .inl ⟨rfl, rfl⟩⟩ hns
    have hsz : ((w1.alloc (.cells #[] E)).setCell ⟨b, off + d * 2 + 1, none⟩ (.slice (some ⟨w1.heap.size, 0, none⟩) 0 0)).heap.size = w1.heap.size + 1 := by simp [World.setCell]
    have hbel : Below w1.heap.size w1 (w1.alloc (.cells #[] E)) := (Below.refl _ _).alloc (Nat.le_refl _) _
    refine Mutd.of har (fun x hx => ?_) ((h.rd.below hbel).set (by omega)) hq ((h.chg.step hbel).set_new hb.1) (by rw [List.length_set]; exact h0) (by rw [List.length_set]; exact Nat.le_succ _) ((hs.mono (by omega)).set (by simp) (fun c hc => by cases hc))
    rw [hsz]
    rcases hF' x hx with h1 | h1
    · have := hF x h1; omega
    · cases h1
/-- the first constructor in view -/
theorem Cpy.ctor {b off n cap d : Nat} (h : Cpy g q xs (.slice (some ⟨b, off, none⟩) n cap) F w w1) (h0 : 0 < xs.length) (hs : SmallW m xs) (hd : d < xs.length) (hk : 0 < xs[d].ctors.length) :
    ∃ b2 off2 cap2 aA acap, w1.cell? ⟨b, off + d * 2 + 1, none⟩ = some (.slice (some ⟨b2, off2, none⟩) xs[d].ctors.length cap2) ∧ b ≠ b2 ∧ b ∉ [g] ∧ b2 ∉ [g] ∧ b < w1.heap.size ∧ b2 < w1.heap.size ∧ (∀ j, w1.frozen? ⟨b2, j, none⟩ = false) ∧
      w1.cell? ⟨b2, off2, none⟩ = some (.string xs[d].ctors[0].name) ∧ w1.cell? ⟨b2, off2 + 1, none⟩ = some (.slice aA xs[d].ctors[0].args.length acap) ∧ w1.cell? ⟨b2, off2 + 2, none⟩ = some (.int .i64 xs[d].ctors[0].idx) ∧
      Own w1 0 32 2 TyR xs[d].ctors[0].args (.slice aA xs[d].ctors[0].args.length acap) [] ∧ (∀ x ∈ rowOf (.slice aA xs[d].ctors[0].args.length acap), x ∉ [g] ∧ x ≠ b ∧ x ≠ b2 ∧ x < w1.heap.size) ∧ xs[d].ctors[0].args.length ≤ m ∧
      (∀ (w2 : World) (q' : Nat) (s : ByteArray), Rd w2 g q' → Chg [g] w1 w2 → q' ≤ p + 10 → s.size ≤ 1000 → Mutd g p m xs w (.returned (.slice (some ⟨b, off, none⟩) n cap)) (w2.setCell ⟨b2, off2, none⟩ (.string s))) ∧
      (∀ (w2 : World) (q' : Nat) (i : Int), Rd w2 g q' → Chg [g] w1 w2 → q' ≤ p + 10 → Mutd g p m xs w (.returned (.slice (some ⟨b, off, none⟩) n cap)) (w2.setCell ⟨b2, off2 + 2, none⟩ (.int .i64 i))) ∧
      (∀ (w2 : World) (q' : Nat) (y : Ty) (g' c' : Nat) (w3 : World) (o : Obj), Rd w2 g q' → Chg [g] w1 w2 → q' ≤ p + 10 → Own w3 0 32 2 TyR (xs[d].ctors[0].args ++ [y]) (.slice (some ⟨g', 0, none⟩) (xs[d].ctors[0].args.length + 1) c') [] →
        (w2.alloc o).grownBy w3 (Value.slice aA xs[d].ctors[0].args.length acap).ownBlock → ((Value.slice aA xs[d].ctors[0].args.length acap).ownBlock = some g' ∨ g' = w2.heap.size + 1) →
        Mutd g p m xs w (.returned (.slice (some ⟨b, off, none⟩) n cap)) (w3.setCell ⟨b2, off2 + 1, none⟩ (.slice (some ⟨g', 0, none⟩) (xs[d].ctors[0].args.length + 1) c'))) := by
  obtain ⟨FF, ha, hfr, hF⟩ := h.arr
  obtain ⟨b', off', cap', b2, off2, cap2, av, e, hbF, hb2F, hbb, hz, hz2, hkc, c0, c1, c2, hown, hrow, hns, H⟩ := put2 ha hfr hd hk
  cases e
  obtain ⟨aA, acap, rfl, -, -⟩ := hown.form
  have hb := hF _ hbF
  have hb2 := hF _ hb2F
  have hg := h.lt
  have hsd := hs _ (List.getElem_mem hd)
  have hsa := hsd.2 _ (List.getElem_mem hk)
  have hFg : ∀ x ∈ FF, x ∉ [g] := fun x hx => by have := (hF x hx).1; rw [List.mem_singleton]; omega
  have small : ∀ c : Kt, c.args.length ≤ m + 1 → SmallW (m + 1) (xs.set d ⟨xs[d].name, xs[d].ctors.set 0 c⟩) := fun c hc => (hs.mono (by omega)).set (by simp only [List.length_set]; omega) (fun k hk' => by
    rcases List.mem_or_eq_of_mem_set hk' with h1 | rfl
    · exact Nat.le_trans (hsd.2 _ h1) (by omega)
    · exact hc)
  refine ⟨b2, off2, cap2, aA, acap, hkc, fun e => hbb e.symm, hFg _ hbF, hFg _ hb2F, hb.2, hb2.2, hz2, c0, c1, c2, hown, fun x hx => ⟨hFg _ (hrow x hx).1, (hrow x hx).2.1, (hrow x hx).2.2, (hF _ (hrow x hx).1).2⟩, hsa, fun w2 q' s hr hc hq hss => ?_, fun w2 q' i hr hc hq => ?_, fun w2 q' y g' c' w3 o hr hc hq ho3 hg3 hat => ?_⟩
  · have hcl : ∀ j, w2.cell? ⟨b2, j, none⟩ = w1.cell? ⟨b2, j, none⟩ := fun j => hc.cell hb2.2 (hFg _ hb2F)
    have hkp : ∀ x ∈ FF, x ≠ b2 → (w2.setCell ⟨b2, off2, none⟩ (.string s)).heap[x]? = w1.heap[x]? := fun x hx hxb => (Below.heap_setCell _ _ _ _ hxb).trans (hc.block x (hF x hx).2 (hFg x hx))
    have ho2 := (hown.mono0 (w' := w2.setCell ⟨b2, off2, none⟩ (.string s)) (fun x cs G (h : TyR w1 x cs G) => (h : TyR _ x cs G)) (fun x hx => hkp x (hrow x hx).1 (hrow x hx).2.2)).arr
    obtain ⟨F', hF', har⟩ := H (w2.setCell ⟨b2, off2, none⟩ (.string s)) s _ xs[d].ctors[0].idx _ _ (fun j hj => (World.cell?_setCell_other _ _ _ _ (by intro e; injection e; omega)).trans (hcl j)) (fun x hx hxb _ => hkp x hx hxb)
      (World.cell?_setCell_same _ _ _ ((hcl _).trans c0)) ((World.cell?_setCell_other _ _ _ _ (by intro e; injection e; omega)).trans ((hcl _).trans c1)) ((World.cell?_setCell_other _ _ _ _ (by intro e; injection e; omega)).trans ((hcl _).trans c2)) ho2 (by omega)
    have hsz : (w2.setCell ⟨b2, off2, none⟩ (.string s)).heap.size = w2.heap.size := by simp [World.setCell]
    refine Mutd.of har (fun x hx => ?_) (hr.set (by omega)) hq ((h.chg.trans hc).set_new hb2.1) (by rw [List.length_set]; exact h0) (by rw [List.length_set]; exact Nat.le_succ _) (small _ (by simp only; omega))
    rw [hsz]
    have hz2 := hc.size
    rcases hF' x hx with h1 | h1
    · have := hF x h1; omega
    · split at h1
      · cases h1
      · rw [List.append_nil] at h1
        have := hF x (hrow x h1).1; omega
  · have hcl : ∀ j, w2.cell? ⟨b2, j, none⟩ = w1.cell? ⟨b2, j, none⟩ := fun j => hc.cell hb2.2 (hFg _ hb2F)
    have hkp : ∀ x ∈ FF, x ≠ b2 → (w2.setCell ⟨b2, off2 + 2, none⟩ (.int .i64 i)).heap[x]? = w1.heap[x]? := fun x hx hxb => (Below.heap_setCell _ _ _ _ hxb).trans (hc.block x (hF x hx).2 (hFg x hx))
    have ho2 := (hown.mono0 (w' := w2.setCell ⟨b2, off2 + 2, none⟩ (.int .i64 i)) (fun x cs G (h : TyR w1 x cs G) => (h : TyR _ x cs G)) (fun x hx => hkp x (hrow x hx).1 (hrow x hx).2.2)).arr
    obtain ⟨F', hF', har⟩ := H (w2.setCell ⟨b2, off2 + 2, none⟩ (.int .i64 i)) xs[d].ctors[0].name _ i _ _ (fun j hj => (World.cell?_setCell_other _ _ _ _ (by intro e; injection e; omega)).trans (hcl j)) (fun x hx hxb _ => hkp x hx hxb)
      ((World.cell?_setCell_other _ _ _ _ (by intro e; injection e; omega)).trans ((hcl _).trans c0)) ((World.cell?_setCell_other _ _ _ _ (by intro e; injection e; omega)).trans ((hcl _).trans c1)) (World.cell?_setCell_same _ _ _ ((hcl _).trans c2)) ho2 hns
    have hsz : (w2.setCell ⟨b2, off2 + 2, none⟩ (.int .i64 i)).heap.size = w2.heap.size := by simp [World.setCell]
    refine Mutd.of har (fun x hx => ?_) (hr.set (by omega)) hq ((h.chg.trans hc).set_new hb2.1) (by rw [List.length_set]; exact h0) (by rw [List.length_set]; exact Nat.le_succ _) (small _ (by simp only; omega))
    rw [hsz]
    have hz2 := hc.size
    rcases hF' x hx with h1 | h1
    · have := hF x h1; omega
    · split at h1
      · cases h1
      · rw [List.append_nil] at h1
        have := hF x (hrow x h1).1; omega
  · have hrw : ∀ x, (Value.slice aA xs[d].ctors[0].args.length acap).ownBlock = some x → w.heap.size ≤ x ∧ x ≠ b2 := fun x hx => ⟨(hF x (hrow x (mem_rowOf.2 hx)).1).1, (hrow x (mem_rowOf.2 hx)).2.2⟩
    have hwz : w.heap.size ≤ w1.heap.size := h.chg.size
    have hw2 : w1.heap.size ≤ w2.heap.size := hc.size
    have hB3 : Below w.heap.size w2 w3 := ((Below.refl w.heap.size w2).alloc (by omega) o).grown hg3 (by simp; omega) (fun x hx => (hrw x hx).1)
    have hblk : ∀ x, x < w2.heap.size → x ∉ rowOf (Value.slice aA xs[d].ctors[0].args.length acap) → w3.heap[x]? = w2.heap[x]? := fun x hx hxr => (hg3.block x (by simp; omega) (fun e => hxr (mem_rowOf.2 e.symm))).trans (Below.heap_alloc _ _ _ hx)
    have hb2r : b2 ∉ rowOf (Value.slice aA xs[d].ctors[0].args.length acap) := fun hx => (hrow _ hx).2.2 rfl
    have hb3 : w3.heap[b2]? = w1.heap[b2]? := (hblk b2 (by omega) hb2r).trans (hc.block _ hb2.2 (hFg _ hb2F))
    have hcl : ∀ j, w3.cell? ⟨b2, j, none⟩ = w1.cell? ⟨b2, j, none⟩ := fun j => World.cell?_of_block (a := ⟨b2, j, none⟩) hb3
    have hgn : g' ≠ b2 := by
      rcases hat with h1 | h1
      · exact (hrw _ h1).2
      · omega
    have ho2 := (Own.set (j := off2 + 1) (b := b2) TyR_mono' ho3 (.slice (some ⟨g', 0, none⟩) (xs[d].ctors[0].args.length + 1) c') (fun h => hgn (by rw [rowOf_some, List.mem_singleton] at h; exact h.symm)) (fun h => by cases h))
    have hro2 := ho2.row
    have har2 := ho2.arr
    obtain ⟨F', hF', har⟩ := H (w3.setCell ⟨b2, off2 + 1, none⟩ (.slice (some ⟨g', 0, none⟩) (xs[d].ctors[0].args.length + 1) c')) xs[d].ctors[0].name _ xs[d].ctors[0].idx _ _ (fun j hj => (World.cell?_setCell_other _ _ _ _ (by intro e; injection e; omega)).trans (hcl j))
      (fun x hx hxb hxr => (Below.heap_setCell _ _ _ _ hxb).trans ((hblk x (by have := hF x hx; omega) hxr).trans (hc.block x (hF x hx).2 (hFg x hx))))
      ((World.cell?_setCell_other _ _ _ _ (by intro e; injection e; omega)).trans ((hcl _).trans c0)) (World.cell?_setCell_same _ _ _ ((hcl _).trans c1)) ((World.cell?_setCell_other _ _ _ _ (by intro e; injection e; omega)).trans ((hcl _).trans c2)) har2 hns
    have hsz : (w3.setCell ⟨b2, off2 + 1, none⟩ (.slice (some ⟨g', 0, none⟩) (xs[d].ctors[0].args.length + 1) c')).heap.size = w3.heap.size := by simp [World.setCell]
    have hz3 : w2.heap.size ≤ w3.heap.size := hB3.size
    have hgw : w.heap.size ≤ g' := by
      rcases hat with h1 | h1
      · exact (hrw _ h1).1
      · omega
    refine Mutd.of har (fun x hx => ?_) ((hr.low hB3 hg).set (by omega)) hq (((h.chg.trans hc).under hB3).set_new hb2.1) (by rw [List.length_set]; exact h0) (by rw [List.length_set]; exact Nat.le_succ _) (small _ (by simp only [List.length_append, List.length_cons, List.length_nil]; omega))
    rcases hF' x hx with h1 | h1
    · rw [hsz]; have := hF x h1; omega
    · split at h1
      · cases h1
      · rw [List.append_nil] at h1
        have h2 := hro2 x h1
        rw [rowOf_some, List.mem_singleton] at h1
        exact ⟨by omega, h2.2⟩
/-- the last case: a data type once more -/
theorem Cpy.twice {d : Nat} {o : Obj} {vB : Option Nat} {w3 : World} {v3 : Value} {F2 : List Nat} (h : Cpy g q xs v F w w1) (h0 : 0 < xs.length) (hs : SmallW m xs) (hd : d < xs.length) (hF2 : ∀ x ∈ F2, w.heap.size ≤ x) (hv : vB = v.ownBlock)
    (ho : Own w3 w.heap.size 97 2 DtO (xs ++ [xs[d]]) v3 (F ++ F2)) (hg : (w1.alloc o).grownBy w3 vB) (hq : q ≤ p + 10) : Mutd g p m xs w (.returned v3) w3 := by
  subst hv
  have hro := h.own.row
  have hwz : w.heap.size ≤ w1.heap.size := h.chg.size
  have hB3 : Below w.heap.size w1 w3 := ((Below.refl w.heap.size w1).alloc hwz o).grown hg (by simp; omega) (fun x hx => (hro x (mem_rowOf.2 hx)).1)
  have hr3 := ho.row
  have hu3 := ho.under
  obtain ⟨G, hG, ha'⟩ := ArrDtO.toR ho.arr
  refine Mutd.of ha' (fun x hx => ?_) (h.rd.low hB3 h.lt) hq (h.chg.under hB3) (by simp) (by simp) (fun x hx => ?_)
  · have h1 := hG x hx
    split at h1
    · cases h1
    · rcases List.mem_append.1 h1 with h1 | h1
      · exact hr3 x h1
      · refine ⟨?_, hu3 x h1⟩
        rcases List.mem_append.1 h1 with h1 | h1
        · exact h.fresh x h1
        · exact hF2 x h1
  · rcases List.mem_append.1 hx with h1 | h1
    · exact (hs.mono (by omega : m ≤ m + 1)) x h1
    · rw [List.mem_singleton] at h1
      subst h1
      exact (hs.mono (by omega : m ≤ m + 1)) _ (List.getElem_mem hd)
end
end Go.Proofs.Ytilndhmegaccmaa
