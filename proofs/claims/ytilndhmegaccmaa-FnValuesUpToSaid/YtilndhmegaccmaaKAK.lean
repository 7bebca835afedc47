/-
  Lemmas and contracts of functions: ValuesUpTo of the reference. Conditions: none.
-/
import Derived.Test.YtilndhmegaccmaaKAF
import Derived.Test.YtilndhmegaccmaaKAJ
import Derived.Test.YtilndhmegaccmaaKAE

set_option linter.unusedVariables false
set_option linter.unusedSimpArgs false

namespace Go.Proofs.Ytilndhmegaccmaa
open Go.RowKit

theorem Own.row0 {α : Type} {w : World} {B k : Nat} {E : TypeId} {R R' : α → List Value → List Nat → Prop} {RR : World → α → List Value → List Nat → Prop} {vs : List α} {v : Value} {F : List Nat} (h : Own w B E k RR vs v F) (hne : vs ≠ []) :
    ∃ g cap, v = .slice (some ⟨g, 0, none⟩) vs.length cap ∧ B ≤ g ∧ vs.length ≤ cap ∧ cap ≤ maxLen ∧ Row w g E k cap R' ([] : List α) [] := by
  obtain ⟨cs, h1, -⟩ := h
  rcases h1.2 with ⟨-, hn⟩ | ⟨g, cap, cur, rfl, hb, hg, hc, hm, hs, -⟩
  · exact absurd (List.length_eq_zero_iff.1 hn) hne
  · exact ⟨g, cap, rfl, hb, hc, hm, ⟨_, hg, hs⟩, Nat.zero_le _, [], fun j u h => by simp at h, rfl, rfl⟩
theorem Own.elem {α : Type} {w : World} {B k : Nat} {E : TypeId} {R : World → α → List Value → List Nat → Prop} {vs : List α} {F : List Nat} {g n cap : Nat} (hk : ∀ x cs F, R w x cs F → cs.length = k) (h : Own w B E k R vs (.slice (some ⟨g, 0, none⟩) n cap) F) {i : Nat} (hi : i < vs.length) :
    ∃ cs H, CellsAt w g (i * k) cs ∧ R w vs[i] cs H ∧ ∀ b ∈ H, b ∈ F := by
  obtain ⟨cs, h1, h2, -⟩ := h
  have hn : n = vs.length := by
    rcases h1.2 with ⟨h, -⟩ | ⟨g', cap', cur, h, -⟩
    · cases h
    · injection h
  subst hn
  obtain ⟨ds, H, a, r, d⟩ := Flat.get (b := g) (off := 0) hk h2 (cellsAt_ownsRow h1) (List.getElem?_eq_getElem hi)
  exact ⟨ds, H, by simpa using a, r, d⟩
/-- beyond the cells that are stored nothing changes -/
theorem Row.put_far {α : Type} {w : World} {g k n : Nat} {t : TypeId} {R : α → List Value → List Nat → Prop} {xs : List α} {F : List Nat} (h : Row w g t k n R xs F) (cs : List Value) (i : Nat) (hi : i + cs.length ≤ n * k) (j : Nat) (hj : i + cs.length ≤ j) : (putCells w g i cs).cell? ⟨g, j, none⟩ = w.cell? ⟨g, j, none⟩ := by
  obtain ⟨⟨C, h1, h2⟩, -⟩ := h
  obtain ⟨C', g1, g2, g3, g4⟩ := Blk.put cs i h1 (by omega)
  rw [g1.cell, g4 j (.inr hj), ← h1.cell]
set_option maxRecDepth 100000 in
set_option maxHeartbeats 6400000 in
theorem spec_ValuesUpTo (xs : List Dt) (t : Ty) (dp : Int) (w : World) (x : Value) (F : List Nat) (hx : Arr w (DtR w) xs x F) (hf : Under w.heap.size F) :
    Calls Try.prog 18 #[x, .agg #[.int .i64 t.d, .int .i64 t.i], .int .i64 dp] w (MadeVals2 (uptoV xs t dp) (uptoB xs t dp) w) := by
  obtain ⟨A, cap, rfl, hc1, hc2⟩ := hx.form
  have HX := Lib.hid hx
  have HF := Lib.hid hf
  clear hx hf
  go_enter Try.func18, Try.ntmps18
  go_wp2_with fail
  obtain ⟨W2, hW2⟩ : ∃ W2, W2 = (w.alloc (.cells #[.int .i64 t.d, .int .i64 t.i] 32)) := ⟨_, rfl⟩
  have hB0 : Below w.heap.size w W2 := by rw [hW2]; exact (Below.refl _ _).alloc (Nat.le_refl _) _
  have KT : Hid (Blk W2 w.heap.size 32 #[.int .i64 t.d, .int .i64 t.i]) := by rw [hW2]; exact Blk.new w _ _
  rw [← hW2]
  clear hW2
  have y0 : W2.cell? ⟨w.heap.size, 0, none⟩ = some (.int .i64 t.d) := (KT.out.cell 0).trans (by simp)
  have y1 : W2.cell? ⟨w.heap.size, 1, none⟩ = some (.int .i64 t.i) := (KT.out.cell 1).trans (by simp)
  have ylt := KT.out.lt
  go_wp2_with fail
  refine (spec_TypeValid xs t W2 _ F (ArrDt.below HX.out hB0 HF.out) (HF.out.mono hB0.size)).mono ?_
  rintro e w3 ⟨rfl, hb3⟩
  have hB3 := hB0.trans (hb3.mono hB0.size)
  have KT3 := Lib.hid (KT.out.same (hb3.block _ KT.out.lt))
  clear hb3 KT y0 y1 ylt hB0
  cases e1 : typeValidB xs t with
  | false =>
    have HE : Hid (uptoB xs t dp = false) := by unfold Hid uptoB; rw [e1]; rfl
    clear e1
    have HFin : Hid (MadeVals2 (uptoV xs t dp) (uptoB xs t dp) w (.returned (.tuple #[.slice (some ⟨w3.heap.size, 0, none⟩) 0 0, .bool false])) (w3.alloc (.cells #[] 53))) := ⟨_, [], by rw [HE.out], hB3.alloc hB3.size _, by rw [uptoV_no HE.out]; exact ⟨_, 0, rfl, Nat.le_refl _, by simp [maxLen], .inl ⟨rfl, rfl⟩⟩, Free.nil _, Fresh.nil _ _⟩
    go_wp2
    go_ret2
    exact HFin.out
  | true =>
    obtain ⟨hw, hto⟩ := typeValid_split e1
    have HW := Lib.hid hw
    have HT := Lib.hid (typeOkB_tyIn hto)
    have HE1 := Lib.hid e1
    clear e1 hw hto
    by_cases h0 : dp < 0
    · have e2 : decide (dp < 0) = true := by simpa using h0
      have HE : Hid (uptoB xs t dp = false) := by
        have : withinB dp 0 4 = false := by
          cases h : withinB dp 0 4 with
          | false => rfl
          | true => have := (withinB_iff _ _ _).1 h; omega
        unfold Hid uptoB; rw [HE1.out, this]; rfl
      have HFin : Hid (MadeVals2 (uptoV xs t dp) (uptoB xs t dp) w (.returned (.tuple #[.slice (some ⟨w3.heap.size, 0, none⟩) 0 0, .bool false])) (w3.alloc (.cells #[] 53))) := ⟨_, [], by rw [HE.out], hB3.alloc hB3.size _, by rw [uptoV_no HE.out]; exact ⟨_, 0, rfl, Nat.le_refl _, by simp [maxLen], .inl ⟨rfl, rfl⟩⟩, Free.nil _, Fresh.nil _ _⟩
      go_wp2
      go_ret2
      exact HFin.out
    · have e2 : decide (dp < 0) = false := by simpa using h0
      by_cases h5 : dp > 4
      · have e3 : decide (dp > 4) = true := by simpa using h5
        have HE : Hid (uptoB xs t dp = false) := by
          have : withinB dp 0 4 = false := by
            cases h : withinB dp 0 4 with
            | false => rfl
            | true => have := (withinB_iff _ _ _).1 h; omega
          unfold Hid uptoB; rw [HE1.out, this]; rfl
        have HFin : Hid (MadeVals2 (uptoV xs t dp) (uptoB xs t dp) w (.returned (.tuple #[.slice (some ⟨w3.heap.size, 0, none⟩) 0 0, .bool false])) (w3.alloc (.cells #[] 53))) := ⟨_, [], by rw [HE.out], hB3.alloc hB3.size _, by rw [uptoV_no HE.out]; exact ⟨_, 0, rfl, Nat.le_refl _, by simp [maxLen], .inl ⟨rfl, rfl⟩⟩, Free.nil _, Fresh.nil _ _⟩
        go_wp2
        go_ret2
        exact HFin.out
      · have e3 : decide (dp > 4) = false := by simpa using h5
        have hr : withinB dp 0 4 = true := (withinB_iff _ _ _).2 ⟨by omega, by omega⟩
        obtain ⟨n, rfl⟩ : ∃ n : Nat, dp = (n : Int) := ⟨dp.toNat, by omega⟩
        have hn4 : n ≤ 4 := by omega
        have HEQ : Hid (uptoB xs t (n : Int) = decide ((valsL xs n t).length ≤ 400)) := by unfold Hid uptoB; rw [HE1.out, hr]; rfl
        have HEV : Hid (uptoB xs t (n : Int) = true → uptoV xs t (n : Int) = valsL xs n t) := fun h => uptoV_yes h
        clear hr
        have y0 : w3.cell? ⟨w.heap.size, 0, none⟩ = some (.int .i64 t.d) := (KT3.out.cell 0).trans (by simp)
        have y1 : w3.cell? ⟨w.heap.size, 1, none⟩ = some (.int .i64 t.i) := (KT3.out.cell 1).trans (by simp)
        have ylt := KT3.out.lt
        go_wp2_with fail
        refine (spec_l2All n xs HW.out t HT.out (by omega) w3 _ F (ArrDt.below HX.out hB3 HF.out) (HF.out.mono hB3.size)).mono ?_
        rintro e w5 ⟨v5, F5, rfl, hb5, ho5, hf5⟩
        have hB5 := hB3.trans (hb5.mono hB3.size)
        have h35 := hB3.size
        clear hb5 KT3 y0 y1 ylt
        obtain ⟨oA, ocap, rfl, -, -⟩ := ho5.form
        by_cases hc : (cutV (valsL xs n t)).length ≤ 400
        · have e4 : decide (((cutV (valsL xs n t)).length : Int) > 400) = false := by simp; omega
          have hcv := cutV_not hc
          have hlen : (valsL xs n t).length ≤ 400 := by rw [hcv] at hc; exact hc
          have HE : Hid (uptoB xs t (n : Int) = true) := by rw [HEQ.out]; exact decide_eq_true hlen
          have HVE := Lib.hid (HEV.out HE.out)
          have HSM : Hid (∀ v ∈ valsL xs n t, v.size ≤ 60) := fun v hv => by
            have := (vals_small HW.out hn4 HT.out hv).1
            unfold nodes at this
            omega
          rw [hcv] at ho5 e4 ⊢
          clear hc hcv
          generalize valsL xs n t = vs at *
          have hX5 : Arr w5 (VR w5) vs (.slice oA vs.length ocap) (if vs = [] then [] else rowOf (.slice oA vs.length ocap) ++ F5) := ho5.arr
          by_cases hvs : vs = []
          · have hl0 : vs.length = 0 := by rw [hvs]; rfl
            have HFin : Hid (MadeVals2 (uptoV xs t (n : Int)) (uptoB xs t (n : Int)) w (.returned (.tuple #[.slice oA vs.length ocap, .bool true])) w5) := by
              refine ⟨_, [], by rw [HE.out], hB5, ?_, Free.nil _, Fresh.nil _ _⟩
              rw [HVE.out]
              rw [if_pos hvs] at hX5
              exact hX5
            clear hvs ho5 hX5
            have HL0 := Lib.hid hl0
            clear hl0
            go_wp2
            go_loopw [9] (fun kv wr => kv = .int .i64 0 ∧ wr = w5) (fun _ _ => 0)
            case atStart => exact ⟨rfl, rfl⟩
            case round =>
              obtain ⟨rfl, rfl⟩ := hrel
              have g1 : ¬ (0 : Int) < (vs.length : Int) := by rw [HL0.out]; omega
              go_wp2
              go_ret2
              exact HFin.out
          · obtain ⟨g, cp, hv, hge, hgc, hgm, hrow⟩ := ho5.row0 (R := fun _ _ _ => True) (R' := VR w5) hvs
            cases hv
            rw [if_neg hvs] at hX5
            have hgF : g ∉ F5 := ho5.apart g (by simp [rowOf_some])
            have HUF := Lib.hid ho5.under
            have HOW := Lib.hid ho5
            have HRW := Lib.hid hrow
            have HGF := Lib.hid hgF
            have hwg : w.heap.size ≤ g := Nat.le_trans h35 hge
            have hgl : g < w5.heap.size := hrow.lt
            clear hrow hgF ho5 hf5 hX5
            go_wp2
            go_loopw [9] (fun kv wr => ∃ k : Nat, ∃ Fk : List Nat, k ≤ vs.length ∧ kv = .int .i64 k ∧ Hid (Row wr g 53 3 ocap (VR wr) (kidTo vs k) Fk ∧ Free wr Fk ∧ ∀ b ∈ Fk, w5.heap.size ≤ b ∧ b < wr.heap.size) ∧ Hid (Chg [g] w5 wr) ∧ Hid (∀ m, k * 3 ≤ m → wr.cell? ⟨g, m, none⟩ = w5.cell? ⟨g, m, none⟩)) (fun kv _ => vs.length - (intOf kv).toNat)
            case atStart => exact ⟨0, [], Nat.zero_le _, rfl, ⟨HRW.out, Free.nil _, fun b hb => by cases hb⟩, Chg.refl _ _, fun m _ => rfl⟩
            case round =>
              clear HRW
              obtain ⟨k, Fk, hk, rfl, HR, HC, HCE⟩ := hrel
              have hklen : (kidTo vs k).length = k := by unfold kidTo; rw [List.length_take]; omega
              have HKL := Lib.hid hklen
              clear hklen
              by_cases hlt : k < vs.length
              · have q1 : (0 : Int) ≤ (k : Int) := by omega
                have q2 : (k : Int) < (vs.length : Int) := by omega
                obtain ⟨cs, H, hcs, hvr, hH⟩ := HOW.out.elem VR_len hlt
                obtain ⟨kv, rfl, hka⟩ := (VR_iff _ _ _).1 hvr
                obtain ⟨A7, cap7, rfl, -, -⟩ := hka.form
                have c0 : wr.cell? ⟨g, k * 3, none⟩ = some (.int .i64 vs[k].c) := (HCE.out _ (Nat.le_refl _)).trans (hcs 0 _ rfl)
                have c1 : wr.cell? ⟨g, k * 3 + 1, none⟩ = some (.int .i64 vs[k].n) := (HCE.out _ (Nat.le_succ _)).trans (hcs 1 _ rfl)
                have c2 : wr.cell? ⟨g, k * 3 + 2, none⟩ = some (.slice A7 vs[k].ks.length cap7) := (HCE.out _ (by omega)).trans (hcs 2 _ rfl)
                have HV := Lib.hid (VR.mono (w := w5) (w' := wr) _ _ _ (HC.out.kept (HUF.out.sub hH) (fun b hb h => HGF.out (by rw [List.mem_singleton] at h; rw [← h]; exact hH b hb))) hvr)
                have HHU := Lib.hid ((HUF.out.sub hH).mono HC.out.size)
                have HS := Lib.hid (kidTo_succ vs k hlt)
                have HZK := Lib.hid (Nat.le_trans (HSM.out vs[k] (List.getElem_mem hlt)) (show 60 ≤ 1048576 by omega))
                have hgs : g < wr.heap.size := Nat.lt_of_lt_of_le hgl HC.out.size
                obtain ⟨kq, hkq⟩ : ∃ u, u = vs[k] := ⟨_, rfl⟩
                rw [← hkq] at c0 c1 c2 HV HS HZK
                clear hkq hcs hvr hH hka
                go_wp2_with fail
                refine (spec_l2Copy kq wr _ H HV.out HHU.out HZK.out).mono ?_
                rintro e w8 ⟨cs8, F8, rfl, hb8, hp8, hfr8, hfs8⟩
                obtain ⟨kv8, rfl, ha8⟩ := (VR_iff _ _ _).1 hp8
                obtain ⟨A8, cap8, rfl, -, -⟩ := ha8.form
                have hGk : Kept Fk wr w8 := .of_below hb8 fun b hb => (HR.out.2.2 b hb).2
                have hR1 := HR.out.1.mono (w' := w8) (R' := VR w8) (hb8.block _ hgs) hGk (fun x _ => VR.mono x)
                have hn3 : k * 3 + 3 ≤ ocap * 3 := by omega
                obtain ⟨⟨u0, d0⟩, f0⟩ := hR1.old (k * 3) (by omega)
                obtain ⟨⟨u1, d1⟩, f1⟩ := hR1.old (k * 3 + 1) (by omega)
                obtain ⟨⟨u2, d2⟩, f2⟩ := hR1.old (k * 3 + 2) (by omega)
                have HR1 := Lib.hid hR1
                clear hR1 ha8
                have hg3 := putCells_grown g [.int .i64 kq.c, .int .i64 kq.n, .slice A8 kq.ks.length cap8] w8 (k * 3)
                have HCN : Hid (Chg [g] w5 (putCells w8 g (k * 3) [.int .i64 kq.c, .int .i64 kq.n, .slice A8 kq.ks.length cap8])) := (((HC.out.step hb8).set (by simp)).set (by simp)).set (by simp)
                have hkH : Kept F8 w8 (putCells w8 g (k * 3) [.int .i64 kq.c, .int .i64 kq.n, .slice A8 kq.ks.length cap8]) := fun b hb => hg3.1.block b (hfs8 b hb).2 (fun e => by cases e; have := (hfs8 _ hb).1; omega)
                have hkG : Kept Fk w8 (putCells w8 g (k * 3) [.int .i64 kq.c, .int .i64 kq.n, .slice A8 kq.ks.length cap8]) := fun b hb => hg3.1.block b (Nat.lt_of_lt_of_le (HR.out.2.2 b hb).2 hb8.size) (fun e => by cases e; have := (HR.out.2.2 _ hb).1; omega)
                have HRN : Hid (Row (putCells w8 g (k * 3) [.int .i64 kq.c, .int .i64 kq.n, .slice A8 kq.ks.length cap8]) g 53 3 ocap (VR (putCells w8 g (k * 3) [.int .i64 kq.c, .int .i64 kq.n, .slice A8 kq.ks.length cap8])) (kidTo vs (k + 1)) (Fk ++ F8) ∧ Free (putCells w8 g (k * 3) [.int .i64 kq.c, .int .i64 kq.n, .slice A8 kq.ks.length cap8]) (Fk ++ F8) ∧ ∀ b ∈ Fk ++ F8, w5.heap.size ≤ b ∧ b < ((putCells w8 g (k * 3) [.int .i64 kq.c, .int .i64 kq.n, .slice A8 kq.ks.length cap8])).heap.size) := by
                  have h := Row.store (R' := VR (putCells w8 g (k * 3) [.int .i64 kq.c, .int .i64 kq.n, .slice A8 kq.ks.length cap8])) (x := kq) (cs := [.int .i64 kq.c, .int .i64 kq.n, .slice A8 kq.ks.length cap8]) VR_len HR1.out rfl (by rw [HKL.out]; omega) (fun hg => by have := (HR.out.2.2 _ hg).1; omega)
                    (fun x _ ds H hk h => VR.mono x ds H (by rw [HKL.out] at hk; exact hk) h)
                    (VR.mono _ _ _ hkH hp8)
                  rw [HKL.out, ← HS.out] at h
                  refine ⟨h, ⟨List.nodup_append.2 ⟨HR.out.2.1.1, hfr8.1, fun a ha c hc hac => ?_⟩, fun b hb i => ?_⟩, fun b hb => ?_⟩
                  · subst hac
                    have := (HR.out.2.2 _ ha).2
                    have := (hfs8 _ hc).1
                    omega
                  · rcases List.mem_append.1 hb with hb | hb
                    · exact ((HR.out.2.1.kept hGk).kept hkG).2 b hb i
                    · exact (hfr8.kept hkH).2 b hb i
                  · rw [hg3.2]
                    rcases List.mem_append.1 hb with hb | hb
                    · exact ⟨(HR.out.2.2 b hb).1, Nat.lt_of_lt_of_le (HR.out.2.2 b hb).2 hb8.size⟩
                    · exact ⟨Nat.le_trans HC.out.size (hfs8 b hb).1, (hfs8 b hb).2⟩
                have HCF : Hid (∀ m, (k + 1) * 3 ≤ m → ((putCells w8 g (k * 3) [.int .i64 kq.c, .int .i64 kq.n, .slice A8 kq.ks.length cap8])).cell? ⟨g, m, none⟩ = w5.cell? ⟨g, m, none⟩) := fun m hm => (HR1.out.put_far [.int .i64 kq.c, .int .i64 kq.n, .slice A8 kq.ks.length cap8] (k * 3) (by simp; omega) m (by simp; omega)).trans ((hb8.cell (p := ⟨g, m, none⟩) hgs).trans (HCE.out m (by omega)))
                clear hg3 HR1 hp8 hfr8 hfs8 hkH hkG hGk HR HV hb8 c0 c1 c2
                go_wp2
                go_roundw
                case rel => exact ⟨k + 1, _, hlt, by go_num, HRN.out, HCN.out, HCF.out⟩
                case measure => (simp [intOf] <;> omega)
              · have hkk : kidTo vs k = vs := kidTo_all vs (Nat.le_of_not_lt hlt)
                have HFin : Hid (MadeVals2 (uptoV xs t (n : Int)) (uptoB xs t (n : Int)) w (.returned (.tuple #[.slice (some ⟨g, 0, none⟩) vs.length ocap, .bool true])) wr) := by
                  obtain ⟨hr, hfr, hbd⟩ := HR.out
                  rw [hkk] at hr
                  have hgn : g ∉ Fk := fun h => by have := (hbd g h).1; omega
                  have hfree := hr.free hfr hgn
                  obtain ⟨-, h3, cs, h4, h5⟩ := hr
                  refine ⟨_, g :: Fk, by rw [HE.out], hB5.trans (HC.out.below (fun b hb => by rw [List.mem_singleton] at hb; omega) hB5.size), ?_, hfree, fun b hb => ?_⟩
                  · rw [HVE.out]
                    exact ⟨_, ocap, rfl, hgc, hgm, .inr ⟨g, 0, cs, Fk, rfl, h4, h5, rfl⟩⟩
                  · rcases List.mem_cons.1 hb with rfl | hb
                    · exact ⟨hwg, Nat.lt_of_lt_of_le hgl HC.out.size⟩
                    · exact ⟨Nat.le_trans hB5.size (hbd b hb).1, (hbd b hb).2⟩
                clear hkk
                go_wp2
                go_ret2
                exact HFin.out
        · have e4 : decide (((cutV (valsL xs n t)).length : Int) > 400) = true := by simp; omega
          have HE : Hid (uptoB xs t (n : Int) = false) := by
            rw [HEQ.out]
            refine decide_eq_false fun h => hc ?_
            rw [cutV_short (by omega)]; exact h
          clear hc
          generalize cutV (valsL xs n t) = cv at *
          clear ho5
          have HFin : Hid (MadeVals2 (uptoV xs t (n : Int)) (uptoB xs t (n : Int)) w (.returned (.tuple #[.slice (some ⟨w5.heap.size, 0, none⟩) 0 0, .bool false])) (w5.alloc (.cells #[] 53))) := ⟨_, [], by rw [HE.out], hB5.alloc hB5.size _, by rw [uptoV_no HE.out]; exact ⟨_, 0, rfl, Nat.le_refl _, by simp [maxLen], .inl ⟨rfl, rfl⟩⟩, Free.nil _, Fresh.nil _ _⟩
          go_wp2
          go_ret2
          exact HFin.out
end Go.Proofs.Ytilndhmegaccmaa
