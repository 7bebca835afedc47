/-
  Lemmas and contracts of functions: patternScan of the program. Conditions: the world is valid. PatternValid of the program. Conditions: none but the size. strings.Join: its contract at this program (laid by the kit's tool), and in the words of these texts. Conditions: the lists and the result are short. listed of the program. Conditions: no more than 1000 texts. The law of append on slices of the call's own, at a step of a region that draws its order. Conditions: none.
-/
import Derived.Test.YtilndhmegaccmaaGreatDoorKAF
import Derived.Test.YtilndhmegaccmaaGreatDoorKAD
import Derived.Deep.RegionHeld3
import Derived.Deep.RegionWith
import Derived.Deep.QuietTactic
import Derived.BigQuiet
import Derived.IntWalk
import Derived.Test.YtilndhmegaccmaaGreatDoorKAB
import Derived.Test.YtilndhmegaccmaaGreatDoorChecked
import Derived.Shelf.Strings.Builder1
import Derived.Shelf.Strings.Builder2
import Derived.Shelf.Strings.OnBuilder
import Derived.Test.YtilndhmegaccmaaGreatDoorKAA

set_option linter.unusedVariables false
set_option linter.unusedSimpArgs false

namespace Go.Proofs.YtilndhmegaccmaaGreatDoor
open Go.RowKit

def ScanPP (xs : List Dt) (d : Nat) (t : Ty) (p : P) (c : Nat) (g : Nat) (w : World) (e : Ending) (w' : World) : Prop :=
  ∃ (v : Value) (F : List Nat) (c' : Nat), e = .returned (.tuple #[v, .bool (scanPB xs d t p c)]) ∧ Chg [g] w w' ∧ Blk w' g 3 #[.int .i64 (c' : Int)] ∧ (scanPB xs d t p c = true → c' = c + nodesP p ∧ Arr w' (VtR w') (varsN xs d t p) v F ∧ Free w' F ∧ Fresh w w' F) ∧ (scanPB xs d t p c = false → v = .slice none 0 0)
/-- contract of patternScan at one pattern -/
def ScanIP (p : P) : Prop := ∀ (xs : List Dt) (_ : WorldOK xs) (d deep : Nat) (_ : d + deep = 11) (_ : 1 ≤ deep) (t : Ty) (_ : TyIn xs.length t) (w : World) (x : Value) (F : List Nat) (cs : List Value) (G : List Nat) (g : Nat) (c : Nat), Arr w (DtR w) xs x F → Under w.heap.size F → PR w p cs G → Under w.heap.size G →
  Blk w g 3 #[.int .i64 (c : Int)] → g ∉ F → g ∉ G → c ≤ 60 →
  Calls Tryz.prog 65 #[x, .agg #[.int .i64 t.d, .int .i64 t.i], .agg cs.toArray, .int .i64 (deep : Int), .pointer (some ⟨g, 0, none⟩)] w (ScanPP xs d t p c g w)

set_option maxRecDepth 100000 in
set_option maxHeartbeats 6400000 in
theorem patternScan_of (p : P) (ih : ∀ k ∈ p.ks, ScanIP k) : ScanIP p := by
  intro xs hw d deep hdd hd1 t ht w x F cs G g c hx hf hv hg hgb hgF hgG hc60
  have IH := Lib.hid ih
  clear ih
  obtain ⟨kv, rfl, ha⟩ := (PR_iff _ _ _).1 hv
  obtain ⟨A, cap, rfl, hc1, hc2⟩ := hx.form
  obtain ⟨A4, cap4, rfl, hc3, hc4⟩ := ha.form
  have HV := Lib.hid hv
  have HX := Lib.hid hx
  have HF := Lib.hid hf
  have HA := Lib.hid ha
  have HG := Lib.hid hg
  clear hx hf ha hg
  clear hv
  have HW := Lib.hid hw
  have HT := Lib.hid ht
  have HGF := Lib.hid hgF
  have HGG := Lib.hid hgG
  have hgl := hgb.lt
  have gx : w.cell? ⟨g, 0, none⟩ = some (.int .i64 (c : Int)) := (hgb.cell 0).trans (by simp)
  have gf := hgb.frozen 0
  have HGB := Lib.hid hgb
  have HGL := Lib.hid hgl
  clear hw ht hgF hgG hgb
  have HBad : Hid (∀ W c', scanPB xs d t p c = false → Chg [g] w W → Blk W g 3 #[.int .i64 ((c' : Nat) : Int)] → ScanPP xs d t p c g w (.returned (.tuple #[.slice none 0 0, .bool false])) W) := fun W c' hT hC hK =>
    ⟨_, [], c', by rw [hT], hC, hK, (fun h => by rw [hT] at h; cases h), fun _ => rfl⟩
  obtain ⟨W3, hW3⟩ : ∃ W3, W3 = (((w.setCell ⟨g, 0, none⟩ (.int .i64 ((c : Int) + 1))).alloc (.cells #[.int .i64 t.d, .int .i64 t.i] 33)).alloc (.cells #[.int .i64 p.op, .int .i64 p.ct, .int .i64 p.n, .int .i64 p.m, .int .i64 p.va, .slice A4 p.ks.length cap4] 37)) := ⟨_, rfl⟩
  have KG : Hid (Blk W3 g 3 #[.int .i64 ((c + 1 : Nat) : Int)]) := by
    rw [hW3, ← (show ((c : Int) + 1) = ((c + 1 : Nat) : Int) from by omega)]
    have h1 : Blk (w.setCell ⟨g, 0, none⟩ (.int .i64 ((c : Int) + 1))) g 3 #[.int .i64 ((c : Int) + 1)] := HGB.out.set_ 0 (.int .i64 ((c : Int) + 1))
    exact (h1.same (Below.heap_alloc _ _ _ h1.lt)).same (Below.heap_alloc _ _ _ (by have := h1.lt; simp; omega))
  have HCG : Hid (Chg [g] w W3) := by
    rw [hW3]; exact (((Chg.refl [g] w).set (by simp)).step ((Below.refl _ _).alloc (Nat.le_refl _) _)).step ((Below.refl _ _).alloc (Nat.le_refl _) _)
  by_cases hcc : 60 < c + 1
  · have t9 : decide ((c : Int) + 1 > 60) = true := by simp; omega
    have HFin : Hid (ScanPP xs d t p c g w (.returned (.tuple #[.slice none 0 0, .bool false])) W3) := HBad.out W3 (c + 1) (scanPB_many hcc) HCG.out KG.out
    rw [hW3] at HFin
    clear hcc
    go_enter Tryz.func65, Tryz.ntmps65
    go_wp2
    go_ret2
    exact HFin.out
  · have t9 : decide ((c : Int) + 1 > 60) = false := by simp; omega
    cases d with
    | zero =>
      have t8 : decide ((deep : Int) > 10) = true := by simp; omega
      have HFin : Hid (ScanPP xs 0 t p c g w (.returned (.tuple #[.slice none 0 0, .bool false])) W3) := HBad.out W3 (c + 1) scanPB_deep HCG.out KG.out
      rw [hW3] at HFin
      go_enter Tryz.func65, Tryz.ntmps65
      go_wp2
      go_ret2
      exact HFin.out
    | succ d =>
    have t8 : decide ((deep : Int) > 10) = false := by simp; omega
    have KT : Hid (Blk W3 w.heap.size 33 #[.int .i64 t.d, .int .i64 t.i]) := by
      rw [hW3]
      have h := Blk.new (w.setCell ⟨g, 0, none⟩ (.int .i64 ((c : Int) + 1))) 33 #[.int .i64 t.d, .int .i64 t.i]
      rw [show ((w.setCell ⟨g, 0, none⟩ (.int .i64 ((c : Int) + 1)))).heap.size = w.heap.size from by simp [World.setCell]] at h
      exact h.same (Below.heap_alloc _ _ _ (by simp [World.setCell]))
    have KP : Hid (Blk W3 (w.heap.size + 1) 37 #[.int .i64 p.op, .int .i64 p.ct, .int .i64 p.n, .int .i64 p.m, .int .i64 p.va, .slice A4 p.ks.length cap4]) := by
      rw [hW3]
      have h := Blk.new ((w.setCell ⟨g, 0, none⟩ (.int .i64 ((c : Int) + 1))).alloc (.cells #[.int .i64 t.d, .int .i64 t.i] 33)) 37 #[.int .i64 p.op, .int .i64 p.ct, .int .i64 p.n, .int .i64 p.m, .int .i64 p.va, .slice A4 p.ks.length cap4]
      rw [World.size_alloc, show ((w.setCell ⟨g, 0, none⟩ (.int .i64 ((c : Int) + 1)))).heap.size = w.heap.size from by simp [World.setCell]] at h
      exact h
    have hsz3 : w.heap.size + 2 ≤ W3.heap.size := by rw [hW3]; simp [World.setCell]
    have HX3 : Hid (Arr W3 (DtR W3) xs (.slice A xs.length cap) F) := ArrDt.mono HX.out (HCG.out.kept HF.out (fun b hb h => HGF.out (by rw [← List.mem_singleton.1 h]; exact hb)))
    have HF3 := Lib.hid (HF.out.mono HCG.out.size)
    have HV3 := Lib.hid (PR.mono _ _ _ (HCG.out.kept HG.out (fun b hb h => HGG.out (by rw [← List.mem_singleton.1 h]; exact hb))) HV.out)
    have HG3 := Lib.hid (HG.out.mono HCG.out.size)
    go_enter Tryz.func65, Tryz.ntmps65
    go_wp2_with fail
    rw [← hW3]
    clear hW3
    refine (impl_shape xs HW.out t HT.out p W3 _ F _ G HX3.out HF3.out HV3.out HG3.out).mono ?_
    rintro e w6 ⟨v6, F6, rfl, hb6, hfs6, hty6⟩
    have KT6 := Lib.hid (KT.out.same (hb6.block _ KT.out.lt))
    have KP6 := Lib.hid (KP.out.same (hb6.block _ KP.out.lt))
    have KG6 := Lib.hid (KG.out.same (hb6.block _ KG.out.lt))
    have HC6 := Lib.hid (HCG.out.step hb6)
    have hsz6 := Nat.le_trans hsz3 hb6.size
    have HN6 : Hid (∀ b ∈ F6, b ∉ [g]) := fun b hb h => by
      have h1 := (hfs6 b hb).1
      rw [List.mem_singleton.1 h] at h1
      have := KG.out.lt
      omega
    have HU6 := Lib.hid hfs6.under
    clear hb6 hfs6 KT KP KG HCG HX3 HF3 HV3 HG3 hsz3
    cases e1 : nodeB xs t p with
    | false =>
      have HFin := Lib.hid (HBad.out w6 (c + 1) (scanPB_node e1) HC6.out KG6.out)
      clear e1 hty6
      go_wp2
      go_ret2
      exact HFin.out
    | true =>
      have ha6 := hty6 e1
      have hown1 : ownB xs t p = true := by unfold nodeB at e1; rw [Bool.and_eq_true] at e1; exact e1.1
      have HK0 := Lib.hid (KidsOk.zero (d := d) (c := c) e1 (by omega))
      have HLN := Lib.hid HK0.out.len
      have HAI := Lib.hid (typesP_in HW.out HT.out hown1)
      have HL5 := Lib.hid (fun (h5 : p.op = 5) => (show p.ks.length = 2 by rw [HLN.out, typesP_or h5]; rfl))
      have HNext := Lib.hid (fun (i : Nat) (hi : i < p.ks.length) (hil : i < (typesP xs t p).length) (h : KidsOk xs d t p c i) (hs : scanPB xs d (typesP xs t p)[i] p.ks[i] (c + 1 + kidSum p i) = true) => h.next hi hil hs)
      have HFail := Lib.hid (fun (i : Nat) (hi : i < p.ks.length) (hil : i < (typesP xs t p).length) (h : KidsOk xs d t p c i) (hs : scanPB xs d (typesP xs t p)[i] p.ks[i] (c + 1 + kidSum p i) = false) => h.fail hi hil hs)
      have HAcc := Lib.hid (fun (i : Nat) (hi : i < p.ks.length) (hil : i < (typesP xs t p).length) (hn : ¬ (p.op = 5 ∧ i = 1)) => accI_next (d := d) hn HL5.out hil hi)
      have HSame := Lib.hid (fun (i : Nat) (hi : i < p.ks.length) (hil : i < (typesP xs t p).length) (h5 : p.op = 5) (h1 : i = 1) => same_or (d := d) h5 (HL5.out h5) hi hil h1)
      have HOrNo : Hid (∀ (i : Nat) (hi : i < p.ks.length) (h5 : p.op = 5) (h1 : i = 1) (h : KidsOk xs d t p c (i + 1)) (ho : orOk xs d t p = false), scanPB xs (d + 1) t p c = false) := fun i hi h5 h1 h ho => by
        have h2 : KidsOk xs d t p c p.ks.length := by rwa [show i + 1 = p.ks.length by have := HL5.out h5; omega] at h
        exact h2.or_no h5 ho
      clear hty6 e1 hown1
      generalize hass : typesP xs t p = ls at *
      clear hass
      obtain ⟨A6, cap6, rfl, hd3, hd4⟩ := ha6.form
      have HA6 : Hid (Arr w6 (TyR w6) ls (.slice A6 ls.length cap6) F6 ∧ Under w6.heap.size F6) := ⟨ha6, HU6.out⟩
      clear ha6 HU6
      by_cases hnm : namedB p = true
      · have hn2 : p.op = 2 ∨ p.op = 6 := by unfold namedB at hnm; simpa using hnm
        obtain ⟨i0, hi, hz0, hz1, hz2⟩ := info_parts info_VtE
        have HI := Lib.hid hi
        have HZ0 := Lib.hid hz0
        have HZ1 := Lib.hid hz1
        have HZ2 := Lib.hid hz2
        clear hi hz0 hz1 hz2
        have HAC := Lib.hid ((accI_zero xs d t p).trans (accP_named (ys := []) (xs := xs) (d := d) (t := t) hnm))
        clear hnm
        rcases hn2 with h2 | h2
        · have t2 : (p.op == 2) = true := by simp [h2]
          clear h2
          have y0 : w6.cell? ⟨w.heap.size, 0, none⟩ = some (.int .i64 t.d) := (KT6.out.cell 0).trans (by simp)
          have y1 : w6.cell? ⟨w.heap.size, 1, none⟩ = some (.int .i64 t.i) := (KT6.out.cell 1).trans (by simp)
          have klt := KT6.out.lt
          have z0 : w6.cell? ⟨w.heap.size + 1, 0, none⟩ = some (.int .i64 p.op) := (KP6.out.cell 0).trans (by simp)
          have z4 : w6.cell? ⟨w.heap.size + 1, 4, none⟩ = some (.int .i64 p.va) := (KP6.out.cell 4).trans (by simp)
          have z5 : w6.cell? ⟨w.heap.size + 1, 5, none⟩ = some (.slice A4 p.ks.length cap4) := (KP6.out.cell 5).trans (by simp)
          have klt2 := KP6.out.lt
          go_wp2_with (at_builtin; refine Halt.mk ?_)
          have HOB : Hid (Own w6 (w.heap.size + 2) 94 3 VtR ([] : List Vt) (.slice none 0 0) []) := Own.nil _ _ _ _ _
          refine Halt.of (wpList_push1 (P := Tryz.prog) rfl _ _ 78 rfl i0 _ 24 Tryz.underlying78 HI.out HZ0.out HZ1.out HZ2.out rfl (by decide) VtR_len VtR_mono (by rfl) HOB.out ⟨p.va, t⟩ 94 [.int .i64 p.va, .int .i64 t.d, .int .i64 t.i] [] _ (by rfl) rfl (by simp [Value.oneCell']) ⟨rfl, rfl⟩ (Under.nil _) (fun _ _ h => by cases h) (by simp [maxLen]) (by simp) hsz6 ?_)
          intro gr cp w5 hown5 hgr5 hat5
          have hC25 := grown_chg hgr5
          have KP5 := Lib.hid (KP6.out.same (hC25.block _ KP6.out.lt (by simp [rowOf_nil])))
          have KG5 := Lib.hid (KG6.out.same (hC25.block _ KG6.out.lt (by simp [rowOf_nil])))
          have HC5 : Hid (Chg [g] w w5) := chg_grow HC6.out hC25 (fun b hb => by simp [rowOf_nil] at hb)
          have HA5 : Hid (Arr w5 (TyR w5) ls (.slice A6 ls.length cap6) F6 ∧ Under w5.heap.size F6) := ⟨ArrTy.mono HA6.out.1 (hC25.kept HA6.out.2 (fun b _ h => by simp [rowOf_nil] at h)), HA6.out.2.mono hC25.size⟩
          have HR5 : Hid (∀ g' ∈ rowOf (.slice (some ⟨gr, 0, none⟩) (([] : List Vt).length + 1) cp), g' ∉ F6) := fun g' hg' hF => by
            rcases grown_rows hat5 g' hg' with h | h
            · simp [rowOf_nil] at h
            · have := HA6.out.2 g' hF; omega
          have HO5 : Hid (Own w5 (w.heap.size + 2) 94 3 VtR (accI xs d t p 0) (.slice (some ⟨gr, 0, none⟩) (([] : List Vt).length + 1) cp) []) := by rw [HAC.out]; exact hown5
          have hsz5 := Nat.le_trans hsz6 hC25.size
          clear y0 y1 klt z0 z4 z5 klt2
          have z5 : w5.cell? ⟨w.heap.size + 1, 5, none⟩ = some (.slice A4 p.ks.length cap4) := (KP5.out.cell 5).trans (by simp)
          have klt2 := KP5.out.lt
          clear hown5 hgr5 hat5 hC25 HOB KG6 HC6 HA6 KP6 KT6 hsz6 gx gf hgl
          go_wp2
          go_loopw [14, 62] (fun vv iv wr => ∃ i : Nat, i ≤ p.ks.length ∧ iv = .int .i64 i ∧ Hid (KidsOk xs d t p c i) ∧ Hid (p.op = 5 → 1 < i → orOk xs d t p = true) ∧ Hid (Own wr (w.heap.size + 2) 94 3 VtR (accI xs d t p i) vv []) ∧ Hid (∀ g' ∈ rowOf vv, g' ∉ F6) ∧ Hid (Blk wr g 3 #[.int .i64 ((c + 1 + kidSum p i : Nat) : Int)]) ∧ Hid (Chg [g] w wr) ∧ Hid (Arr wr (TyR wr) ls (.slice A6 ls.length cap6) F6 ∧ Under wr.heap.size F6) ∧ Hid (Blk wr (w.heap.size + 1) 37 #[.int .i64 p.op, .int .i64 p.ct, .int .i64 p.n, .int .i64 p.m, .int .i64 p.va, .slice A4 p.ks.length cap4]) ∧ w.heap.size + 2 ≤ wr.heap.size) (fun _ iv _ => p.ks.length - (intOf iv).toNat)
          case atStart => exact ⟨0, Nat.zero_le _, rfl, HK0, (fun _ h => by omega), HO5, HR5, (show Blk _ _ _ #[.int .i64 ((c + 1 + 0 : Nat) : Int)] from KG5.out), HC5, HA5, KP5, hsz5⟩
          case round =>
            clear hsz5
            obtain ⟨i, hi, rfl, HKI, HOR, HO, HRW, KG, HCG, HA6, KP, hsz⟩ := hrel
            have hrow0 := fun b hb => (HO.out.row b hb).1
            have HGR := Lib.hid (show g ∉ rowOf u14 from fun h => by have := hrow0 _ h; have := HGL.out; omega)
            clear hrow0
            by_cases hik : i < p.ks.length
            · have hil : i < ls.length := by rw [← HLN.out]; exact hik
              obtain ⟨b6, off6, rfl⟩ := HA6.out.1.ptr (by omega)
              have HAw := Lib.hid (ArrP.mono HA.out (HCG.out.kept HG.out (fun b hb h => HGG.out (by rw [← List.mem_singleton.1 h]; exact hb))))
              have HGw := Lib.hid (HG.out.mono HCG.out.size)
              have HXw := Lib.hid (ArrDt.mono HX.out (HCG.out.kept HF.out (fun b hb h => HGF.out (by rw [← List.mem_singleton.1 h]; exact hb))))
              have HFw := Lib.hid (HF.out.mono HCG.out.size)
              obtain ⟨b4, off4, rfl⟩ := HAw.out.ptr (by omega)
              obtain ⟨A7, cap7, G7, hb7, k0, k1, k2, k3, k4, k5, HV7, HG7, hG7G, -, -⟩ := ArrP.at HAw.out HGw.out (Below.refl _ _) i hik
              have HN7 : Hid (g ∉ G7) := fun h => HGG.out (hG7G _ h)
              clear hG7G
              have g1 : (0 : Int) ≤ (i : Int) := by omega
              have g2 : (i : Int) < (ls.length : Int) := by omega
              have g3 : (i : Int) < (p.ks.length : Int) := by omega
              have hwr : IntKind.i64.wrap ((deep : Int) + 1) = (deep : Int) + 1 := IntWalk.i64_in _ (by omega)
              obtain ⟨W7, hW7⟩ : ∃ W7, W7 = wr.alloc (.cells #[.int .i64 p.ks[i].op, .int .i64 p.ks[i].ct, .int .i64 p.ks[i].n, .int .i64 p.ks[i].m, .int .i64 p.ks[i].va, .slice A7 p.ks[i].ks.length cap7] 37) := ⟨_, rfl⟩
              have hb77 : Below wr.heap.size wr W7 := by rw [hW7]; exact (Below.refl _ _).alloc (Nat.le_refl _) _
              have KX : Hid (Blk W7 wr.heap.size 37 #[.int .i64 p.ks[i].op, .int .i64 p.ks[i].ct, .int .i64 p.ks[i].n, .int .i64 p.ks[i].m, .int .i64 p.ks[i].va, .slice A7 p.ks[i].ks.length cap7]) := by rw [hW7]; exact Blk.new _ _ _
              have KG7 := Lib.hid (KG.out.same (hb77.block _ KG.out.lt))
              have KP7 := Lib.hid (KP.out.same (hb77.block _ KP.out.lt))
              have HCG7 := Lib.hid (HCG.out.step hb77)
              have HX7 := Lib.hid (ArrDt.below HXw.out hb77 HFw.out)
              have HF7 := Lib.hid (HFw.out.mono hb77.size)
              have HV77 := Lib.hid (HV7.out.below hb77 HG7.out)
              have HG77 := Lib.hid (HG7.out.mono hb77.size)
              have HA67 : Hid (Arr W7 (TyR W7) ls (.slice (some ⟨b6, off6, none⟩) ls.length cap6) F6 ∧ Under W7.heap.size F6) := ⟨ArrTy.below HA6.out.1 hb77 HA6.out.2, HA6.out.2.mono hb77.size⟩
              have HO7 : Hid (Own W7 (w.heap.size + 2) 94 3 VtR (accI xs d t p i) u14 []) := HO.out.below (fun x cs G hk h => VtR_mono _ _ x cs G hk h) hb77
              have hgw : g < wr.heap.size := KG.out.lt
              have hne7 : wr.heap.size ≠ g := by omega
              have hsz7 := Nat.le_trans hsz hb77.size
              have hci : c + 1 + kidSum p i ≤ 60 := HKI.out.fit
              go_wp2_with fail
              rw [← hW7]
              clear hW7 k0 k1 k2 k3 k4 k5 hb7 HAw HGw HXw HFw HV7 HG7 KG HCG HA6 KP HO
              obtain ⟨hb6, a0, a1⟩ := ArrTy.at HA67.out.1 HA67.out.2 (Below.refl _ _) i hil
              have hb6n : b6 ≠ g := by
                obtain ⟨b', off', cs', G', e', hb', -⟩ := HA67.out.1.get TyR_len hil
                cases e'
                exact fun e => HN6.out _ hb' (by rw [e]; exact List.mem_singleton.2 rfl)
              have k0 : W7.cell? ⟨wr.heap.size, 0, none⟩ = some (.int .i64 p.ks[i].op) := (KX.out.cell 0).trans (by simp)
              have k1 : W7.cell? ⟨wr.heap.size, 1, none⟩ = some (.int .i64 p.ks[i].ct) := (KX.out.cell 1).trans (by simp)
              have k2 : W7.cell? ⟨wr.heap.size, 2, none⟩ = some (.int .i64 p.ks[i].n) := (KX.out.cell 2).trans (by simp)
              have k3 : W7.cell? ⟨wr.heap.size, 3, none⟩ = some (.int .i64 p.ks[i].m) := (KX.out.cell 3).trans (by simp)
              have k4 : W7.cell? ⟨wr.heap.size, 4, none⟩ = some (.int .i64 p.ks[i].va) := (KX.out.cell 4).trans (by simp)
              have k5 : W7.cell? ⟨wr.heap.size, 5, none⟩ = some (.slice A7 p.ks[i].ks.length cap7) := (KX.out.cell 5).trans (by simp)
              have kxl := KX.out.lt
              have HNE := Lib.hid (show b6 ∉ [g] from fun h => hb6n (List.mem_singleton.1 h))
              have HNE7 := Lib.hid (show wr.heap.size ∉ [g] from fun h => hne7 (List.mem_singleton.1 h))
              clear hb6n hne7 hgw
              have HCALL := Lib.hid (IH.out p.ks[i] (List.getElem_mem hik) xs HW.out d (deep + 1) (by omega) (by omega) ls[i] (HAI.out _ (List.getElem_mem hil)) W7.drew _ F _ G7 g (c + 1 + kidSum p i) (ArrDt.drew HX7.out) HF7.out HV77.out.drew HG77.out KG7.out HGF.out HN7.out hci)
              rw [show ((deep + 1 : Nat) : Int) = (deep : Int) + 1 by omega] at HCALL
              go_region_held3 (fun w' => w'.cell? ⟨b6, off6 + i * 2, none⟩ = some (.int .i64 ls[i].d) ∧ w'.cell? ⟨b6, off6 + i * 2 + 1, none⟩ = some (.int .i64 ls[i].i) ∧ w'.cell? ⟨wr.heap.size, 0, none⟩ = some (.int .i64 p.ks[i].op) ∧ w'.cell? ⟨wr.heap.size, 1, none⟩ = some (.int .i64 p.ks[i].ct) ∧ w'.cell? ⟨wr.heap.size, 2, none⟩ = some (.int .i64 p.ks[i].n) ∧ w'.cell? ⟨wr.heap.size, 3, none⟩ = some (.int .i64 p.ks[i].m) ∧ w'.cell? ⟨wr.heap.size, 4, none⟩ = some (.int .i64 p.ks[i].va) ∧ w'.cell? ⟨wr.heap.size, 5, none⟩ = some (.slice A7 p.ks[i].ks.length cap7)) (first | assumption | (exact ⟨a0, a1, k0, k1, k2, k3, k4, k5⟩) | (exact ⟨(hC'.cell hb6 HNE.out).trans a0, (hC'.cell hb6 HNE.out).trans a1, (hC'.cell kxl HNE7.out).trans k0, (hC'.cell kxl HNE7.out).trans k1, (hC'.cell kxl HNE7.out).trans k2, (hC'.cell kxl HNE7.out).trans k3, (hC'.cell kxl HNE7.out).trans k4, (hC'.cell kxl HNE7.out).trans k5⟩)) (first | (go_at_call 65; ((with_reducible refine HCALL.out.mono ?_); rintro e w' ⟨v', F', c', rfl, hC', hK', hy', -⟩)))
              have hC2 := hC'.undrew
              have HCG8 := Lib.hid (HCG7.out.trans hC2)
              have HK8 := Lib.hid hK'
              have HA68 : Hid (Arr w' (TyR w') ls (.slice (some ⟨b6, off6, none⟩) ls.length cap6) F6 ∧ Under w'.heap.size F6) := ⟨ArrTy.mono HA67.out.1 (hC2.kept HA67.out.2 HN6.out), HA67.out.2.mono hC2.size⟩
              have KP8 := Lib.hid (KP7.out.same (hC2.block _ KP7.out.lt (fun h => by have := List.mem_singleton.1 h; have := HGL.out; omega)))
              have HO8 : Hid (Own w' (w.heap.size + 2) 94 3 VtR (accI xs d t p i) u14 []) := HO7.out.mono (fun x cs G hk h => VtR_mono _ _ x cs G hk h) (hC2.kept (fun b hb => (HO7.out.row b (by simpa using hb)).2) (fun b hb h => HGR.out (by rw [← List.mem_singleton.1 h]; simpa using hb))) hC2.size
              have hsz8 := Nat.le_trans hsz7 hC2.size
              have HY := Lib.hid hy'
              have HSW := Lib.hid (show w.heap.size ≤ W7.heap.size from by omega)
              clear hwr hC' hC2 hK' hy' a0 a1 k0 k1 k2 k3 k4 k5 kxl hb6 HCALL KG7 HCG7 HX7 HF7 HV77 HG77 HA67 HO7 hsz7 hb77 KX
              cases e3 : scanPB xs d ls[i] p.ks[i] (c + 1 + kidSum p i) with
              | false =>
                have HFin := Lib.hid (HBad.out w' c' (HFail.out i hik hil HKI.out e3) HCG8.out HK8.out)
                clear e3
                go_wp2
                go_ret2
                exact HFin.out
              | true =>
                obtain ⟨hcc, hav, hfrv, hfsv⟩ := HY.out e3
                have HKN := Lib.hid (HNext.out i hik hil HKI.out e3)
                have hks := kidSum_succ p i hik
                obtain rfl : c' = c + 1 + kidSum p (i + 1) := by omega
                have HAV := Lib.hid hav
                have HUV := Lib.hid hfsv.under
                have HLY := Lib.hid (varsN_len xs d ls[i] p.ks[i])
                have HNK := Lib.hid (nodesP_mem hik)
                clear hav hfrv hfsv hks e3 HY hcc
                have z0 : w'.cell? ⟨w.heap.size + 1, 0, none⟩ = some (.int .i64 p.op) := (KP8.out.cell 0).trans (by simp)
                have klt2 := KP8.out.lt
                by_cases hor : p.op = 5 ∧ i = 1
                · have t5 : (p.op == 5) = true := by simp [hor.1]
                  have t6 : ((i : Int) == 1) = true := by simp [hor.2]
                  have HOR1 := Lib.hid hor.1
                  have HOR2 := Lib.hid hor.2
                  clear hor
                  go_wp2_with fail
                  refine (impl_sameVars (accI xs d t p i) (varsN xs d ls[i] p.ks[i]) w' _ _ _ F' HO8.out.arr (fun b hb => by
                    split at hb
                    · cases hb
                    · exact (HO8.out.row b (by simpa using hb)).2) HAV.out HUV.out).mono ?_
                  rintro e w9 ⟨rfl, hb9⟩
                  have hok : sameV (accI xs d t p i) (varsN xs d ls[i] p.ks[i]) = orOk xs d t p := HSame.out i hik hil HOR1.out HOR2.out
                  rw [hok]
                  have KP9 := Lib.hid (KP8.out.same (hb9.block _ KP8.out.lt))
                  have KG9 := Lib.hid (HK8.out.same (hb9.block _ HK8.out.lt))
                  have HC9 := Lib.hid (HCG8.out.step hb9)
                  have HA9 : Hid (Arr w9 (TyR w9) ls (.slice (some ⟨b6, off6, none⟩) ls.length cap6) F6 ∧ Under w9.heap.size F6) := ⟨ArrTy.below HA68.out.1 hb9 HA68.out.2, HA68.out.2.mono hb9.size⟩
                  have HO9 : Hid (Own w9 (w.heap.size + 2) 94 3 VtR (accI xs d t p (i + 1)) u14 []) := by
                    have h := HO8.out.below (fun x cs G hk h => VtR_mono _ _ x cs G hk h) hb9
                    rw [accI_or HOR1.out (by omega)]
                    rw [HOR2.out] at h
                    exact h
                  have hsz9 := Nat.le_trans hsz8 hb9.size
                  clear hok hb9 z0 klt2
                  cases e4 : orOk xs d t p with
                  | false =>
                    have HFin := Lib.hid (HBad.out w9 _ (HOrNo.out i hik HOR1.out HOR2.out HKN.out e4) HC9.out KG9.out)
                    clear e4
                    go_wp2
                    go_ret2
                    exact HFin.out
                  | true =>
                    have HE4 := Lib.hid e4
                    clear e4
                    go_wp2
                    go_roundw
                    case rel => exact ⟨i + 1, by omega, by go_num, HKN, (fun _ _ => HE4.out), HO9, HRW, KG9, HC9, HA9, KP9, hsz9⟩
                    case measure => (simp [intOf] <;> omega)
                · obtain ⟨A9, cap9, rfl, h91, h92⟩ := HAV.out.form
                  obtain ⟨i0, hi0, hz0, hz1, hz2⟩ := info_parts info_VtE
                  have hn60 := HKN.out.fit
                  have HL60 := Lib.hid (accI_len xs d t p i)
                  have hpl : (accI xs d t p i).length + (varsN xs d ls[i] p.ks[i]).length ≤ 200 := by
                    have h1 := HL60.out
                    have h2 := HLY.out
                    have h3 := kidSum_succ p i hik
                    omega
                  obtain ⟨v8, w8, hrun, ho8, hg8, hr8⟩ := run_append_vars (P := Tryz.prog) 78 78 i0 _ 24 Tryz.underlying78 hi0 hz0 hz1 hz2 rfl HO8.out HAV.out (by unfold maxLen; omega) (by omega) hsz8
                  have HRUN := Lib.hid hrun
                  have hC8 := grown_chg' hg8
                  have hgr8 : g ∉ rowOf u14 := HGR.out
                  have HO9 : Hid (Own w8 (w.heap.size + 2) 94 3 VtR (accI xs d t p (i + 1)) v8 []) := by rw [HAcc.out i hik hil hor]; exact ho8
                  have HRW9 : Hid (∀ g' ∈ rowOf v8, g' ∉ F6) := fun g' hg' hF => by
                    rcases hr8 g' hg' with h | h
                    · exact HRW.out g' h hF
                    · have := HA68.out.2 g' hF; omega
                  have KG9 := Lib.hid (HK8.out.same (hC8.block _ HK8.out.lt hgr8))
                  have KP9 := Lib.hid (KP8.out.same (hC8.block _ KP8.out.lt (fun h => by have := (HO8.out.row _ h).1; omega)))
                  have HC9 : Hid (Chg [g] w w8) := chg_grow HCG8.out hC8 (fun b hb => .inr (by have := (HO8.out.row _ hb).1; omega))
                  have HA9 : Hid (Arr w8 (TyR w8) ls (.slice (some ⟨b6, off6, none⟩) ls.length cap6) F6 ∧ Under w8.heap.size F6) := ⟨ArrTy.mono HA68.out.1 (hC8.kept HA68.out.2 (fun b hb h => HRW.out b h hb)), HA68.out.2.mono hC8.size⟩
                  have hsz9 := Nat.le_trans hsz8 hC8.size
                  have HORn : Hid (p.op = 5 → 1 < i + 1 → orOk xs d t p = true) := fun h5 h1 => by
                    have := HL5.out h5
                    exact absurd ⟨h5, by omega⟩ hor
                  clear hrun ho8 hg8 hr8 hC8 hgr8 hi0 hz0 hz1 hz2 HAV HUV hpl hn60
                  by_cases h5 : p.op = 5
                  · have t5 : (p.op == 5) = true := by simp [h5]
                    have t6 : ((i : Int) == 1) = false := by rw [beq_eq_false_iff_ne]; intro h; exact hor ⟨h5, by omega⟩
                    clear h5 hor
                    go_wp2_with (at_builtin; refine Halt.mk ?_)
                    refine Halt.of (wpList_app_run rfl _ _ 78 rfl (by rfl) (by rfl) HRUN.out ?_)
                    clear HRUN z0 klt2 t5
                    go_wp2
                    go_roundw
                    case rel => exact ⟨i + 1, by omega, by go_num, HKN, HORn, HO9, HRW9, KG9, HC9, HA9, KP9, hsz9⟩
                    case measure => (simp [intOf] <;> omega)
                  · have t5 : (p.op == 5) = false := by simpa using h5
                    clear h5 hor
                    go_wp2_with (at_builtin; refine Halt.mk ?_)
                    refine Halt.of (wpList_app_run rfl _ _ 78 rfl (by rfl) (by rfl) HRUN.out ?_)
                    clear HRUN z0 klt2 t5
                    go_wp2
                    go_roundw
                    case rel => exact ⟨i + 1, by omega, by go_num, HKN, HORn, HO9, HRW9, KG9, HC9, HA9, KP9, hsz9⟩
                    case measure => (simp [intOf] <;> omega)
            · obtain ⟨wo, hwo⟩ : ∃ wo, wo = wr := ⟨_, rfl⟩
              subst hwo
              have HKE : Hid (KidsOk xs d t p c p.ks.length) := by have h := HKI.out; rwa [show i = p.ks.length by omega] at h
              have HOE : Hid (Own wo (w.heap.size + 2) 94 3 VtR (accI xs d t p p.ks.length) u14 []) := by have h := HO.out; rwa [show i = p.ks.length by omega] at h
              have KGE : Hid (Blk wo g 3 #[.int .i64 ((c + nodesP p : Nat) : Int)]) := by have h := KG.out; rw [show i = p.ks.length by omega] at h; rwa [kidSum_all p (Nat.le_refl _), ← Nat.add_assoc]
              have HFS := Lib.hid (HKE.out.fin (fun h5 => HOR.out h5 (by have := HL5.out h5; omega)))
              have HRG := Lib.hid (vars_range xs (d + 1) t p HKE.out.shape)
              have HLL := Lib.hid (varsN_len xs (d + 1) t p)
              have hln60 : (varsN xs (d + 1) t p).length ≤ 60 := by have h1 := HLL.out; have h2 := HKE.out.fit; have h3 := kidSum_all p (Nat.le_refl p.ks.length); omega
              have hacc := accI_done (xs := xs) (d := d) (t := t) (p := p) HL5.out
              rw [hacc] at HOE
              have hfinT : Hid (dupFree (varsN xs (d + 1) t p) = true → ∀ W, Below wo.heap.size wo W → ScanPP xs (d + 1) t p c g w (.returned (.tuple #[u14, .bool true])) W) := fun hd W hW => by
                have hT := HFS.out.trans hd
                have hO := HOE.out.below (fun x cs G hk h => VtR_mono _ _ x cs G hk h) hW
                exact ⟨u14, _, c + nodesP p, by rw [hT], HCG.out.step hW, KGE.out.same (hW.block _ KGE.out.lt), fun _ => ⟨rfl, hO.arr, hO.free (Free.nil _), hO.fresh (by omega) (fun b hb => by cases hb)⟩, fun h => by rw [hT] at h; cases h⟩
              have hfinF : Hid (dupFree (varsN xs (d + 1) t p) = false → ∀ W, Below wo.heap.size wo W → ScanPP xs (d + 1) t p c g w (.returned (.tuple #[.slice none 0 0, .bool false])) W) := fun hd W hW => HBad.out W _ (HFS.out.trans hd) (HCG.out.step hW) (KGE.out.same (hW.block _ KGE.out.lt))
              clear hacc HFS HLL
              generalize varsN xs (d + 1) t p = L at *
              obtain ⟨oA, ocap, hov, ho1, ho2⟩ := HOE.out.form
              subst hov
              have HAL := Lib.hid HOE.out.arr
              have HUL : Hid (Under wo.heap.size (if L = [] then [] else rowOf (.slice oA L.length ocap) ++ [])) := fun b hb => by
                split at hb
                · cases hb
                · exact (HOE.out.row b (by simpa using hb)).2
              generalize (if L = [] then [] else rowOf (.slice oA L.length ocap) ++ []) = FL at *
              have hbm : Below wo.heap.size wo (wo.alloc (.cells #[.bool false, .bool false, .bool false, .bool false, .bool false, .bool false] 120)) := (Below.refl _ _).alloc (Nat.le_refl _) _
              have KM : Hid (Blk (wo.alloc (.cells #[.bool false, .bool false, .bool false, .bool false, .bool false, .bool false] 120)) wo.heap.size 120 (metTo L 0)) := Blk.new _ _ _
              clear HO KG HRW HA6 KP HKI HOR HGR HKE HOE KGE HCG
              go_wp2
              go_loopw [101] (fun iv ws => ∃ i : Nat, i ≤ L.length ∧ iv = .int .i64 i ∧ Hid (∀ j (hj : j < L.length), j < i → ∀ k (hk : k < L.length), k < j → L[k].var ≠ L[j].var) ∧ Hid (Blk ws wo.heap.size 120 (metTo L i)) ∧ Hid (Below wo.heap.size wo ws)) (fun iv _ => L.length - (intOf iv).toNat)
              case atStart => exact ⟨0, Nat.zero_le _, rfl, (fun j hj h => by omega), KM, hbm⟩
              case round =>
                clear KM hbm
                obtain ⟨i, hi, rfl, HN, KM, HB⟩ := hrel
                by_cases hil : i < L.length
                · obtain ⟨bL, offL, rfl⟩ := HAL.out.ptr (by omega)
                  obtain ⟨hbL, c0, c1, c2⟩ := ArrVt.at HAL.out HUL.out HB.out i hil
                  have hrg := HRG.out L[i] (List.getElem_mem hil)
                  obtain ⟨k, hk⟩ : ∃ k : Nat, L[i].var = (k : Int) := ⟨L[i].var.toNat, by omega⟩
                  have hk6 : k < 6 := by omega
                  have HNY := Lib.hid (fun (h : metB (L.take i) k = false) => met_yes hil hk h)
                  have HNN := Lib.hid (fun (h : metB (L.take i) k = true) => met_no hil hk h)
                  have HMS := Lib.hid (metTo_succ L hil hk6 hk)
                  have g1 : (0 : Int) ≤ (i : Int) := by omega
                  have g2 : (i : Int) < (L.length : Int) := by omega
                  have g3 : (0 : Int) ≤ (k : Int) := by omega
                  have g4 : (k : Int) < 6 := by omega
                  rw [hk] at c0
                  have hml := KM.out.lt
                  have hBv : Below wr.heap.size wr (wr.alloc (.cells #[.int .i64 (k : Int), .int .i64 L[i].ty.d, .int .i64 L[i].ty.i] 94)) := (Below.refl _ _).alloc (Nat.le_refl _) _
                  have KMv : Blk (wr.alloc (.cells #[.int .i64 (k : Int), .int .i64 L[i].ty.d, .int .i64 L[i].ty.i] 94)) wo.heap.size 120 (metTo L i) := KM.out.same (hBv.block _ hml)
                  have m0 : (wr.alloc (.cells #[.int .i64 (k : Int), .int .i64 L[i].ty.d, .int .i64 L[i].ty.i] 94)).cell? ⟨wo.heap.size, k, none⟩ = some (.bool (metB (L.take i) k)) := (KMv.cell k).trans (metRow_get _ hk6)
                  have mf0 : (wr.alloc (.cells #[.int .i64 (k : Int), .int .i64 L[i].ty.d, .int .i64 L[i].ty.i] 94)).frozen? ⟨wo.heap.size, k, none⟩ = false := KMv.frozen k
                  have n0 : wr.cell? ⟨wo.heap.size, k, none⟩ = some (.bool (metB (L.take i) k)) := (KM.out.cell k).trans (metRow_get _ hk6)
                  have nf0 : wr.frozen? ⟨wo.heap.size, k, none⟩ = false := KM.out.frozen k
                  have hmlv := KMv.lt
                  have HBv := Lib.hid (HB.out.trans (hBv.mono HB.out.size))
                  have HKMv := Lib.hid KMv
                  clear hrg hk KMv
                  cases hm : metB (L.take i) k with
                  | true =>
                    rw [hm] at m0 n0
                    have HFin := Lib.hid (hfinF.out (HNN.out hm) _ HBv.out)
                    clear hm
                    go_wp2
                    go_ret2
                    exact HFin.out
                  | false =>
                    rw [hm] at m0 n0
                    have hny := HNY.out hm
                    have HN2 : Hid (∀ j (hj : j < L.length), j < i + 1 → ∀ k (hk : k < L.length), k < j → L[k].var ≠ L[j].var) := fun j hj hji => by
                      rcases Nat.lt_or_ge j i with h | h
                      · exact HN.out j hj h
                      · obtain rfl : j = i := by omega
                        exact hny
                    have KM1 : Blk (wr.setCell ⟨wo.heap.size, k, none⟩ (.bool true)) wo.heap.size 120 (metTo L (i + 1)) := by rw [← HMS.out]; exact KM.out.set_ k (.bool true)
                    have KM2 : Hid (Blk ((wr.setCell ⟨wo.heap.size, k, none⟩ (.bool true)).alloc (.cells #[.int .i64 (k : Int), .int .i64 L[i].ty.d, .int .i64 L[i].ty.i] 94)) wo.heap.size 120 (metTo L (i + 1))) := KM1.same (Below.heap_alloc _ _ _ KM1.lt)
                    have HB2 : Hid (Below wo.heap.size wo ((wr.setCell ⟨wo.heap.size, k, none⟩ (.bool true)).alloc (.cells #[.int .i64 (k : Int), .int .i64 L[i].ty.d, .int .i64 L[i].ty.i] 94))) := (HB.out.setCell (Nat.le_refl _) _).alloc (by have := HB.out.size; simpa [World.setCell] using this) _
                    clear KM1
                    clear hm hny
                    go_wp2
                    go_roundw
                    case rel => exact ⟨i + 1, by omega, by go_num, HN2, KM2, HB2⟩
                    case measure => (simp [intOf] <;> omega)
                · have HFin := Lib.hid (hfinT.out (dup_yes (fun j hj => HN.out j hj (by omega))) _ HB.out)
                  go_wp2
                  go_ret2
                  exact HFin.out
        · have t2 : (p.op == 2) = false := by simp [h2]
          have t6 : (p.op == 6) = true := by simp [h2]
          clear h2
          have y0 : w6.cell? ⟨w.heap.size, 0, none⟩ = some (.int .i64 t.d) := (KT6.out.cell 0).trans (by simp)
          have y1 : w6.cell? ⟨w.heap.size, 1, none⟩ = some (.int .i64 t.i) := (KT6.out.cell 1).trans (by simp)
          have klt := KT6.out.lt
          have z0 : w6.cell? ⟨w.heap.size + 1, 0, none⟩ = some (.int .i64 p.op) := (KP6.out.cell 0).trans (by simp)
          have z4 : w6.cell? ⟨w.heap.size + 1, 4, none⟩ = some (.int .i64 p.va) := (KP6.out.cell 4).trans (by simp)
          have z5 : w6.cell? ⟨w.heap.size + 1, 5, none⟩ = some (.slice A4 p.ks.length cap4) := (KP6.out.cell 5).trans (by simp)
          have klt2 := KP6.out.lt
          go_wp2_with (at_builtin; refine Halt.mk ?_)
          have HOB : Hid (Own w6 (w.heap.size + 2) 94 3 VtR ([] : List Vt) (.slice none 0 0) []) := Own.nil _ _ _ _ _
          refine Halt.of (wpList_push1 (P := Tryz.prog) rfl _ _ 78 rfl i0 _ 24 Tryz.underlying78 HI.out HZ0.out HZ1.out HZ2.out rfl (by decide) VtR_len VtR_mono (by rfl) HOB.out ⟨p.va, t⟩ 94 [.int .i64 p.va, .int .i64 t.d, .int .i64 t.i] [] _ (by rfl) rfl (by simp [Value.oneCell']) ⟨rfl, rfl⟩ (Under.nil _) (fun _ _ h => by cases h) (by simp [maxLen]) (by simp) hsz6 ?_)
          intro gr cp w5 hown5 hgr5 hat5
          have hC25 := grown_chg hgr5
          have KP5 := Lib.hid (KP6.out.same (hC25.block _ KP6.out.lt (by simp [rowOf_nil])))
          have KG5 := Lib.hid (KG6.out.same (hC25.block _ KG6.out.lt (by simp [rowOf_nil])))
          have HC5 : Hid (Chg [g] w w5) := chg_grow HC6.out hC25 (fun b hb => by simp [rowOf_nil] at hb)
          have HA5 : Hid (Arr w5 (TyR w5) ls (.slice A6 ls.length cap6) F6 ∧ Under w5.heap.size F6) := ⟨ArrTy.mono HA6.out.1 (hC25.kept HA6.out.2 (fun b _ h => by simp [rowOf_nil] at h)), HA6.out.2.mono hC25.size⟩
          have HR5 : Hid (∀ g' ∈ rowOf (.slice (some ⟨gr, 0, none⟩) (([] : List Vt).length + 1) cp), g' ∉ F6) := fun g' hg' hF => by
            rcases grown_rows hat5 g' hg' with h | h
            · simp [rowOf_nil] at h
            · have := HA6.out.2 g' hF; omega
          have HO5 : Hid (Own w5 (w.heap.size + 2) 94 3 VtR (accI xs d t p 0) (.slice (some ⟨gr, 0, none⟩) (([] : List Vt).length + 1) cp) []) := by rw [HAC.out]; exact hown5
          have hsz5 := Nat.le_trans hsz6 hC25.size
          clear y0 y1 klt z0 z4 z5 klt2
          have z5 : w5.cell? ⟨w.heap.size + 1, 5, none⟩ = some (.slice A4 p.ks.length cap4) := (KP5.out.cell 5).trans (by simp)
          have klt2 := KP5.out.lt
          clear hown5 hgr5 hat5 hC25 HOB KG6 HC6 HA6 KP6 KT6 hsz6 gx gf hgl
          go_wp2
          go_loopw [14, 62] (fun vv iv wr => ∃ i : Nat, i ≤ p.ks.length ∧ iv = .int .i64 i ∧ Hid (KidsOk xs d t p c i) ∧ Hid (p.op = 5 → 1 < i → orOk xs d t p = true) ∧ Hid (Own wr (w.heap.size + 2) 94 3 VtR (accI xs d t p i) vv []) ∧ Hid (∀ g' ∈ rowOf vv, g' ∉ F6) ∧ Hid (Blk wr g 3 #[.int .i64 ((c + 1 + kidSum p i : Nat) : Int)]) ∧ Hid (Chg [g] w wr) ∧ Hid (Arr wr (TyR wr) ls (.slice A6 ls.length cap6) F6 ∧ Under wr.heap.size F6) ∧ Hid (Blk wr (w.heap.size + 1) 37 #[.int .i64 p.op, .int .i64 p.ct, .int .i64 p.n, .int .i64 p.m, .int .i64 p.va, .slice A4 p.ks.length cap4]) ∧ w.heap.size + 2 ≤ wr.heap.size) (fun _ iv _ => p.ks.length - (intOf iv).toNat)
          case atStart => exact ⟨0, Nat.zero_le _, rfl, HK0, (fun _ h => by omega), HO5, HR5, (show Blk _ _ _ #[.int .i64 ((c + 1 + 0 : Nat) : Int)] from KG5.out), HC5, HA5, KP5, hsz5⟩
          case round =>
            clear hsz5
            obtain ⟨i, hi, rfl, HKI, HOR, HO, HRW, KG, HCG, HA6, KP, hsz⟩ := hrel
            have hrow0 := fun b hb => (HO.out.row b hb).1
            have HGR := Lib.hid (show g ∉ rowOf u14 from fun h => by have := hrow0 _ h; have := HGL.out; omega)
            clear hrow0
            by_cases hik : i < p.ks.length
            · have hil : i < ls.length := by rw [← HLN.out]; exact hik
              obtain ⟨b6, off6, rfl⟩ := HA6.out.1.ptr (by omega)
              have HAw := Lib.hid (ArrP.mono HA.out (HCG.out.kept HG.out (fun b hb h => HGG.out (by rw [← List.mem_singleton.1 h]; exact hb))))
              have HGw := Lib.hid (HG.out.mono HCG.out.size)
              have HXw := Lib.hid (ArrDt.mono HX.out (HCG.out.kept HF.out (fun b hb h => HGF.out (by rw [← List.mem_singleton.1 h]; exact hb))))
              have HFw := Lib.hid (HF.out.mono HCG.out.size)
              obtain ⟨b4, off4, rfl⟩ := HAw.out.ptr (by omega)
              obtain ⟨A7, cap7, G7, hb7, k0, k1, k2, k3, k4, k5, HV7, HG7, hG7G, -, -⟩ := ArrP.at HAw.out HGw.out (Below.refl _ _) i hik
              have HN7 : Hid (g ∉ G7) := fun h => HGG.out (hG7G _ h)
              clear hG7G
              have g1 : (0 : Int) ≤ (i : Int) := by omega
              have g2 : (i : Int) < (ls.length : Int) := by omega
              have g3 : (i : Int) < (p.ks.length : Int) := by omega
              have hwr : IntKind.i64.wrap ((deep : Int) + 1) = (deep : Int) + 1 := IntWalk.i64_in _ (by omega)
              obtain ⟨W7, hW7⟩ : ∃ W7, W7 = wr.alloc (.cells #[.int .i64 p.ks[i].op, .int .i64 p.ks[i].ct, .int .i64 p.ks[i].n, .int .i64 p.ks[i].m, .int .i64 p.ks[i].va, .slice A7 p.ks[i].ks.length cap7] 37) := ⟨_, rfl⟩
              have hb77 : Below wr.heap.size wr W7 := by rw [hW7]; exact (Below.refl _ _).alloc (Nat.le_refl _) _
              have KX : Hid (Blk W7 wr.heap.size 37 #[.int .i64 p.ks[i].op, .int .i64 p.ks[i].ct, .int .i64 p.ks[i].n, .int .i64 p.ks[i].m, .int .i64 p.ks[i].va, .slice A7 p.ks[i].ks.length cap7]) := by rw [hW7]; exact Blk.new _ _ _
              have KG7 := Lib.hid (KG.out.same (hb77.block _ KG.out.lt))
              have KP7 := Lib.hid (KP.out.same (hb77.block _ KP.out.lt))
              have HCG7 := Lib.hid (HCG.out.step hb77)
              have HX7 := Lib.hid (ArrDt.below HXw.out hb77 HFw.out)
              have HF7 := Lib.hid (HFw.out.mono hb77.size)
              have HV77 := Lib.hid (HV7.out.below hb77 HG7.out)
              have HG77 := Lib.hid (HG7.out.mono hb77.size)
              have HA67 : Hid (Arr W7 (TyR W7) ls (.slice (some ⟨b6, off6, none⟩) ls.length cap6) F6 ∧ Under W7.heap.size F6) := ⟨ArrTy.below HA6.out.1 hb77 HA6.out.2, HA6.out.2.mono hb77.size⟩
              have HO7 : Hid (Own W7 (w.heap.size + 2) 94 3 VtR (accI xs d t p i) u14 []) := HO.out.below (fun x cs G hk h => VtR_mono _ _ x cs G hk h) hb77
              have hgw : g < wr.heap.size := KG.out.lt
              have hne7 : wr.heap.size ≠ g := by omega
              have hsz7 := Nat.le_trans hsz hb77.size
              have hci : c + 1 + kidSum p i ≤ 60 := HKI.out.fit
              go_wp2_with fail
              rw [← hW7]
              clear hW7 k0 k1 k2 k3 k4 k5 hb7 HAw HGw HXw HFw HV7 HG7 KG HCG HA6 KP HO
              obtain ⟨hb6, a0, a1⟩ := ArrTy.at HA67.out.1 HA67.out.2 (Below.refl _ _) i hil
              have hb6n : b6 ≠ g := by
                obtain ⟨b', off', cs', G', e', hb', -⟩ := HA67.out.1.get TyR_len hil
                cases e'
                exact fun e => HN6.out _ hb' (by rw [e]; exact List.mem_singleton.2 rfl)
              have k0 : W7.cell? ⟨wr.heap.size, 0, none⟩ = some (.int .i64 p.ks[i].op) := (KX.out.cell 0).trans (by simp)
              have k1 : W7.cell? ⟨wr.heap.size, 1, none⟩ = some (.int .i64 p.ks[i].ct) := (KX.out.cell 1).trans (by simp)
              have k2 : W7.cell? ⟨wr.heap.size, 2, none⟩ = some (.int .i64 p.ks[i].n) := (KX.out.cell 2).trans (by simp)
              have k3 : W7.cell? ⟨wr.heap.size, 3, none⟩ = some (.int .i64 p.ks[i].m) := (KX.out.cell 3).trans (by simp)
              have k4 : W7.cell? ⟨wr.heap.size, 4, none⟩ = some (.int .i64 p.ks[i].va) := (KX.out.cell 4).trans (by simp)
              have k5 : W7.cell? ⟨wr.heap.size, 5, none⟩ = some (.slice A7 p.ks[i].ks.length cap7) := (KX.out.cell 5).trans (by simp)
              have kxl := KX.out.lt
              have HNE := Lib.hid (show b6 ∉ [g] from fun h => hb6n (List.mem_singleton.1 h))
              have HNE7 := Lib.hid (show wr.heap.size ∉ [g] from fun h => hne7 (List.mem_singleton.1 h))
              clear hb6n hne7 hgw
              have HCALL := Lib.hid (IH.out p.ks[i] (List.getElem_mem hik) xs HW.out d (deep + 1) (by omega) (by omega) ls[i] (HAI.out _ (List.getElem_mem hil)) W7.drew _ F _ G7 g (c + 1 + kidSum p i) (ArrDt.drew HX7.out) HF7.out HV77.out.drew HG77.out KG7.out HGF.out HN7.out hci)
              rw [show ((deep + 1 : Nat) : Int) = (deep : Int) + 1 by omega] at HCALL
              go_region_held3 (fun w' => w'.cell? ⟨b6, off6 + i * 2, none⟩ = some (.int .i64 ls[i].d) ∧ w'.cell? ⟨b6, off6 + i * 2 + 1, none⟩ = some (.int .i64 ls[i].i) ∧ w'.cell? ⟨wr.heap.size, 0, none⟩ = some (.int .i64 p.ks[i].op) ∧ w'.cell? ⟨wr.heap.size, 1, none⟩ = some (.int .i64 p.ks[i].ct) ∧ w'.cell? ⟨wr.heap.size, 2, none⟩ = some (.int .i64 p.ks[i].n) ∧ w'.cell? ⟨wr.heap.size, 3, none⟩ = some (.int .i64 p.ks[i].m) ∧ w'.cell? ⟨wr.heap.size, 4, none⟩ = some (.int .i64 p.ks[i].va) ∧ w'.cell? ⟨wr.heap.size, 5, none⟩ = some (.slice A7 p.ks[i].ks.length cap7)) (first | assumption | (exact ⟨a0, a1, k0, k1, k2, k3, k4, k5⟩) | (exact ⟨(hC'.cell hb6 HNE.out).trans a0, (hC'.cell hb6 HNE.out).trans a1, (hC'.cell kxl HNE7.out).trans k0, (hC'.cell kxl HNE7.out).trans k1, (hC'.cell kxl HNE7.out).trans k2, (hC'.cell kxl HNE7.out).trans k3, (hC'.cell kxl HNE7.out).trans k4, (hC'.cell kxl HNE7.out).trans k5⟩)) (first | (go_at_call 65; ((with_reducible refine HCALL.out.mono ?_); rintro e w' ⟨v', F', c', rfl, hC', hK', hy', -⟩)))
              have hC2 := hC'.undrew
              have HCG8 := Lib.hid (HCG7.out.trans hC2)
              have HK8 := Lib.hid hK'
              have HA68 : Hid (Arr w' (TyR w') ls (.slice (some ⟨b6, off6, none⟩) ls.length cap6) F6 ∧ Under w'.heap.size F6) := ⟨ArrTy.mono HA67.out.1 (hC2.kept HA67.out.2 HN6.out), HA67.out.2.mono hC2.size⟩
              have KP8 := Lib.hid (KP7.out.same (hC2.block _ KP7.out.lt (fun h => by have := List.mem_singleton.1 h; have := HGL.out; omega)))
              have HO8 : Hid (Own w' (w.heap.size + 2) 94 3 VtR (accI xs d t p i) u14 []) := HO7.out.mono (fun x cs G hk h => VtR_mono _ _ x cs G hk h) (hC2.kept (fun b hb => (HO7.out.row b (by simpa using hb)).2) (fun b hb h => HGR.out (by rw [← List.mem_singleton.1 h]; simpa using hb))) hC2.size
              have hsz8 := Nat.le_trans hsz7 hC2.size
              have HY := Lib.hid hy'
              have HSW := Lib.hid (show w.heap.size ≤ W7.heap.size from by omega)
              clear hwr hC' hC2 hK' hy' a0 a1 k0 k1 k2 k3 k4 k5 kxl hb6 HCALL KG7 HCG7 HX7 HF7 HV77 HG77 HA67 HO7 hsz7 hb77 KX
              cases e3 : scanPB xs d ls[i] p.ks[i] (c + 1 + kidSum p i) with
              | false =>
                have HFin := Lib.hid (HBad.out w' c' (HFail.out i hik hil HKI.out e3) HCG8.out HK8.out)
                clear e3
                go_wp2
                go_ret2
                exact HFin.out
              | true =>
                obtain ⟨hcc, hav, hfrv, hfsv⟩ := HY.out e3
                have HKN := Lib.hid (HNext.out i hik hil HKI.out e3)
                have hks := kidSum_succ p i hik
                obtain rfl : c' = c + 1 + kidSum p (i + 1) := by omega
                have HAV := Lib.hid hav
                have HUV := Lib.hid hfsv.under
                have HLY := Lib.hid (varsN_len xs d ls[i] p.ks[i])
                have HNK := Lib.hid (nodesP_mem hik)
                clear hav hfrv hfsv hks e3 HY hcc
                have z0 : w'.cell? ⟨w.heap.size + 1, 0, none⟩ = some (.int .i64 p.op) := (KP8.out.cell 0).trans (by simp)
                have klt2 := KP8.out.lt
                by_cases hor : p.op = 5 ∧ i = 1
                · have t5 : (p.op == 5) = true := by simp [hor.1]
                  have t6 : ((i : Int) == 1) = true := by simp [hor.2]
                  have HOR1 := Lib.hid hor.1
                  have HOR2 := Lib.hid hor.2
                  clear hor
                  go_wp2_with fail
                  refine (impl_sameVars (accI xs d t p i) (varsN xs d ls[i] p.ks[i]) w' _ _ _ F' HO8.out.arr (fun b hb => by
                    split at hb
                    · cases hb
                    · exact (HO8.out.row b (by simpa using hb)).2) HAV.out HUV.out).mono ?_
                  rintro e w9 ⟨rfl, hb9⟩
                  have hok : sameV (accI xs d t p i) (varsN xs d ls[i] p.ks[i]) = orOk xs d t p := HSame.out i hik hil HOR1.out HOR2.out
                  rw [hok]
                  have KP9 := Lib.hid (KP8.out.same (hb9.block _ KP8.out.lt))
                  have KG9 := Lib.hid (HK8.out.same (hb9.block _ HK8.out.lt))
                  have HC9 := Lib.hid (HCG8.out.step hb9)
                  have HA9 : Hid (Arr w9 (TyR w9) ls (.slice (some ⟨b6, off6, none⟩) ls.length cap6) F6 ∧ Under w9.heap.size F6) := ⟨ArrTy.below HA68.out.1 hb9 HA68.out.2, HA68.out.2.mono hb9.size⟩
                  have HO9 : Hid (Own w9 (w.heap.size + 2) 94 3 VtR (accI xs d t p (i + 1)) u14 []) := by
                    have h := HO8.out.below (fun x cs G hk h => VtR_mono _ _ x cs G hk h) hb9
                    rw [accI_or HOR1.out (by omega)]
                    rw [HOR2.out] at h
                    exact h
                  have hsz9 := Nat.le_trans hsz8 hb9.size
                  clear hok hb9 z0 klt2
                  cases e4 : orOk xs d t p with
                  | false =>
                    have HFin := Lib.hid (HBad.out w9 _ (HOrNo.out i hik HOR1.out HOR2.out HKN.out e4) HC9.out KG9.out)
                    clear e4
                    go_wp2
                    go_ret2
                    exact HFin.out
                  | true =>
                    have HE4 := Lib.hid e4
                    clear e4
                    go_wp2
                    go_roundw
                    case rel => exact ⟨i + 1, by omega, by go_num, HKN, (fun _ _ => HE4.out), HO9, HRW, KG9, HC9, HA9, KP9, hsz9⟩
                    case measure => (simp [intOf] <;> omega)
                · obtain ⟨A9, cap9, rfl, h91, h92⟩ := HAV.out.form
                  obtain ⟨i0, hi0, hz0, hz1, hz2⟩ := info_parts info_VtE
                  have hn60 := HKN.out.fit
                  have HL60 := Lib.hid (accI_len xs d t p i)
                  have hpl : (accI xs d t p i).length + (varsN xs d ls[i] p.ks[i]).length ≤ 200 := by
                    have h1 := HL60.out
                    have h2 := HLY.out
                    have h3 := kidSum_succ p i hik
                    omega
                  obtain ⟨v8, w8, hrun, ho8, hg8, hr8⟩ := run_append_vars (P := Tryz.prog) 78 78 i0 _ 24 Tryz.underlying78 hi0 hz0 hz1 hz2 rfl HO8.out HAV.out (by unfold maxLen; omega) (by omega) hsz8
                  have HRUN := Lib.hid hrun
                  have hC8 := grown_chg' hg8
                  have hgr8 : g ∉ rowOf u14 := HGR.out
                  have HO9 : Hid (Own w8 (w.heap.size + 2) 94 3 VtR (accI xs d t p (i + 1)) v8 []) := by rw [HAcc.out i hik hil hor]; exact ho8
                  have HRW9 : Hid (∀ g' ∈ rowOf v8, g' ∉ F6) := fun g' hg' hF => by
                    rcases hr8 g' hg' with h | h
                    · exact HRW.out g' h hF
                    · have := HA68.out.2 g' hF; omega
                  have KG9 := Lib.hid (HK8.out.same (hC8.block _ HK8.out.lt hgr8))
                  have KP9 := Lib.hid (KP8.out.same (hC8.block _ KP8.out.lt (fun h => by have := (HO8.out.row _ h).1; omega)))
                  have HC9 : Hid (Chg [g] w w8) := chg_grow HCG8.out hC8 (fun b hb => .inr (by have := (HO8.out.row _ hb).1; omega))
                  have HA9 : Hid (Arr w8 (TyR w8) ls (.slice (some ⟨b6, off6, none⟩) ls.length cap6) F6 ∧ Under w8.heap.size F6) := ⟨ArrTy.mono HA68.out.1 (hC8.kept HA68.out.2 (fun b hb h => HRW.out b h hb)), HA68.out.2.mono hC8.size⟩
                  have hsz9 := Nat.le_trans hsz8 hC8.size
                  have HORn : Hid (p.op = 5 → 1 < i + 1 → orOk xs d t p = true) := fun h5 h1 => by
                    have := HL5.out h5
                    exact absurd ⟨h5, by omega⟩ hor
                  clear hrun ho8 hg8 hr8 hC8 hgr8 hi0 hz0 hz1 hz2 HAV HUV hpl hn60
                  by_cases h5 : p.op = 5
                  · have t5 : (p.op == 5) = true := by simp [h5]
                    have t6 : ((i : Int) == 1) = false := by rw [beq_eq_false_iff_ne]; intro h; exact hor ⟨h5, by omega⟩
                    clear h5 hor
                    go_wp2_with (at_builtin; refine Halt.mk ?_)
                    refine Halt.of (wpList_app_run rfl _ _ 78 rfl (by rfl) (by rfl) HRUN.out ?_)
                    clear HRUN z0 klt2 t5
                    go_wp2
                    go_roundw
                    case rel => exact ⟨i + 1, by omega, by go_num, HKN, HORn, HO9, HRW9, KG9, HC9, HA9, KP9, hsz9⟩
                    case measure => (simp [intOf] <;> omega)
                  · have t5 : (p.op == 5) = false := by simpa using h5
                    clear h5 hor
                    go_wp2_with (at_builtin; refine Halt.mk ?_)
                    refine Halt.of (wpList_app_run rfl _ _ 78 rfl (by rfl) (by rfl) HRUN.out ?_)
                    clear HRUN z0 klt2 t5
                    go_wp2
                    go_roundw
                    case rel => exact ⟨i + 1, by omega, by go_num, HKN, HORn, HO9, HRW9, KG9, HC9, HA9, KP9, hsz9⟩
                    case measure => (simp [intOf] <;> omega)
            · obtain ⟨wo, hwo⟩ : ∃ wo, wo = wr := ⟨_, rfl⟩
              subst hwo
              have HKE : Hid (KidsOk xs d t p c p.ks.length) := by have h := HKI.out; rwa [show i = p.ks.length by omega] at h
              have HOE : Hid (Own wo (w.heap.size + 2) 94 3 VtR (accI xs d t p p.ks.length) u14 []) := by have h := HO.out; rwa [show i = p.ks.length by omega] at h
              have KGE : Hid (Blk wo g 3 #[.int .i64 ((c + nodesP p : Nat) : Int)]) := by have h := KG.out; rw [show i = p.ks.length by omega] at h; rwa [kidSum_all p (Nat.le_refl _), ← Nat.add_assoc]
              have HFS := Lib.hid (HKE.out.fin (fun h5 => HOR.out h5 (by have := HL5.out h5; omega)))
              have HRG := Lib.hid (vars_range xs (d + 1) t p HKE.out.shape)
              have HLL := Lib.hid (varsN_len xs (d + 1) t p)
              have hln60 : (varsN xs (d + 1) t p).length ≤ 60 := by have h1 := HLL.out; have h2 := HKE.out.fit; have h3 := kidSum_all p (Nat.le_refl p.ks.length); omega
              have hacc := accI_done (xs := xs) (d := d) (t := t) (p := p) HL5.out
              rw [hacc] at HOE
              have hfinT : Hid (dupFree (varsN xs (d + 1) t p) = true → ∀ W, Below wo.heap.size wo W → ScanPP xs (d + 1) t p c g w (.returned (.tuple #[u14, .bool true])) W) := fun hd W hW => by
                have hT := HFS.out.trans hd
                have hO := HOE.out.below (fun x cs G hk h => VtR_mono _ _ x cs G hk h) hW
                exact ⟨u14, _, c + nodesP p, by rw [hT], HCG.out.step hW, KGE.out.same (hW.block _ KGE.out.lt), fun _ => ⟨rfl, hO.arr, hO.free (Free.nil _), hO.fresh (by omega) (fun b hb => by cases hb)⟩, fun h => by rw [hT] at h; cases h⟩
              have hfinF : Hid (dupFree (varsN xs (d + 1) t p) = false → ∀ W, Below wo.heap.size wo W → ScanPP xs (d + 1) t p c g w (.returned (.tuple #[.slice none 0 0, .bool false])) W) := fun hd W hW => HBad.out W _ (HFS.out.trans hd) (HCG.out.step hW) (KGE.out.same (hW.block _ KGE.out.lt))
              clear hacc HFS HLL
              generalize varsN xs (d + 1) t p = L at *
              obtain ⟨oA, ocap, hov, ho1, ho2⟩ := HOE.out.form
              subst hov
              have HAL := Lib.hid HOE.out.arr
              have HUL : Hid (Under wo.heap.size (if L = [] then [] else rowOf (.slice oA L.length ocap) ++ [])) := fun b hb => by
                split at hb
                · cases hb
                · exact (HOE.out.row b (by simpa using hb)).2
              generalize (if L = [] then [] else rowOf (.slice oA L.length ocap) ++ []) = FL at *
              have hbm : Below wo.heap.size wo (wo.alloc (.cells #[.bool false, .bool false, .bool false, .bool false, .bool false, .bool false] 120)) := (Below.refl _ _).alloc (Nat.le_refl _) _
              have KM : Hid (Blk (wo.alloc (.cells #[.bool false, .bool false, .bool false, .bool false, .bool false, .bool false] 120)) wo.heap.size 120 (metTo L 0)) := Blk.new _ _ _
              clear HO KG HRW HA6 KP HKI HOR HGR HKE HOE KGE HCG
              go_wp2
              go_loopw [101] (fun iv ws => ∃ i : Nat, i ≤ L.length ∧ iv = .int .i64 i ∧ Hid (∀ j (hj : j < L.length), j < i → ∀ k (hk : k < L.length), k < j → L[k].var ≠ L[j].var) ∧ Hid (Blk ws wo.heap.size 120 (metTo L i)) ∧ Hid (Below wo.heap.size wo ws)) (fun iv _ => L.length - (intOf iv).toNat)
              case atStart => exact ⟨0, Nat.zero_le _, rfl, (fun j hj h => by omega), KM, hbm⟩
              case round =>
                clear KM hbm
                obtain ⟨i, hi, rfl, HN, KM, HB⟩ := hrel
                by_cases hil : i < L.length
                · obtain ⟨bL, offL, rfl⟩ := HAL.out.ptr (by omega)
                  obtain ⟨hbL, c0, c1, c2⟩ := ArrVt.at HAL.out HUL.out HB.out i hil
                  have hrg := HRG.out L[i] (List.getElem_mem hil)
                  obtain ⟨k, hk⟩ : ∃ k : Nat, L[i].var = (k : Int) := ⟨L[i].var.toNat, by omega⟩
                  have hk6 : k < 6 := by omega
                  have HNY := Lib.hid (fun (h : metB (L.take i) k = false) => met_yes hil hk h)
                  have HNN := Lib.hid (fun (h : metB (L.take i) k = true) => met_no hil hk h)
                  have HMS := Lib.hid (metTo_succ L hil hk6 hk)
                  have g1 : (0 : Int) ≤ (i : Int) := by omega
                  have g2 : (i : Int) < (L.length : Int) := by omega
                  have g3 : (0 : Int) ≤ (k : Int) := by omega
                  have g4 : (k : Int) < 6 := by omega
                  rw [hk] at c0
                  have hml := KM.out.lt
                  have hBv : Below wr.heap.size wr (wr.alloc (.cells #[.int .i64 (k : Int), .int .i64 L[i].ty.d, .int .i64 L[i].ty.i] 94)) := (Below.refl _ _).alloc (Nat.le_refl _) _
                  have KMv : Blk (wr.alloc (.cells #[.int .i64 (k : Int), .int .i64 L[i].ty.d, .int .i64 L[i].ty.i] 94)) wo.heap.size 120 (metTo L i) := KM.out.same (hBv.block _ hml)
                  have m0 : (wr.alloc (.cells #[.int .i64 (k : Int), .int .i64 L[i].ty.d, .int .i64 L[i].ty.i] 94)).cell? ⟨wo.heap.size, k, none⟩ = some (.bool (metB (L.take i) k)) := (KMv.cell k).trans (metRow_get _ hk6)
                  have mf0 : (wr.alloc (.cells #[.int .i64 (k : Int), .int .i64 L[i].ty.d, .int .i64 L[i].ty.i] 94)).frozen? ⟨wo.heap.size, k, none⟩ = false := KMv.frozen k
                  have n0 : wr.cell? ⟨wo.heap.size, k, none⟩ = some (.bool (metB (L.take i) k)) := (KM.out.cell k).trans (metRow_get _ hk6)
                  have nf0 : wr.frozen? ⟨wo.heap.size, k, none⟩ = false := KM.out.frozen k
                  have hmlv := KMv.lt
                  have HBv := Lib.hid (HB.out.trans (hBv.mono HB.out.size))
                  have HKMv := Lib.hid KMv
                  clear hrg hk KMv
                  cases hm : metB (L.take i) k with
                  | true =>
                    rw [hm] at m0 n0
                    have HFin := Lib.hid (hfinF.out (HNN.out hm) _ HBv.out)
                    clear hm
                    go_wp2
                    go_ret2
                    exact HFin.out
                  | false =>
                    rw [hm] at m0 n0
                    have hny := HNY.out hm
                    have HN2 : Hid (∀ j (hj : j < L.length), j < i + 1 → ∀ k (hk : k < L.length), k < j → L[k].var ≠ L[j].var) := fun j hj hji => by
                      rcases Nat.lt_or_ge j i with h | h
                      · exact HN.out j hj h
                      · obtain rfl : j = i := by omega
                        exact hny
                    have KM1 : Blk (wr.setCell ⟨wo.heap.size, k, none⟩ (.bool true)) wo.heap.size 120 (metTo L (i + 1)) := by rw [← HMS.out]; exact KM.out.set_ k (.bool true)
                    have KM2 : Hid (Blk ((wr.setCell ⟨wo.heap.size, k, none⟩ (.bool true)).alloc (.cells #[.int .i64 (k : Int), .int .i64 L[i].ty.d, .int .i64 L[i].ty.i] 94)) wo.heap.size 120 (metTo L (i + 1))) := KM1.same (Below.heap_alloc _ _ _ KM1.lt)
                    have HB2 : Hid (Below wo.heap.size wo ((wr.setCell ⟨wo.heap.size, k, none⟩ (.bool true)).alloc (.cells #[.int .i64 (k : Int), .int .i64 L[i].ty.d, .int .i64 L[i].ty.i] 94))) := (HB.out.setCell (Nat.le_refl _) _).alloc (by have := HB.out.size; simpa [World.setCell] using this) _
                    clear KM1
                    clear hm hny
                    go_wp2
                    go_roundw
                    case rel => exact ⟨i + 1, by omega, by go_num, HN2, KM2, HB2⟩
                    case measure => (simp [intOf] <;> omega)
                · have HFin := Lib.hid (hfinT.out (dup_yes (fun j hj => HN.out j hj (by omega))) _ HB.out)
                  go_wp2
                  go_ret2
                  exact HFin.out
      · have hn2 : ¬ p.op = 2 := fun h => hnm (by unfold namedB; simp [h])
        have hn6 : ¬ p.op = 6 := fun h => hnm (by unfold namedB; simp [h])
        have t2 : (p.op == 2) = false := by simpa using hn2
        have t6 : (p.op == 6) = false := by simpa using hn6
        have HAC := Lib.hid ((accI_zero xs d t p).trans (accP_bare (ys := []) (xs := xs) (d := d) (t := t) (Bool.eq_false_iff.2 hnm)))
        clear hnm
        have HO5 : Hid (Own w6 (w.heap.size + 2) 94 3 VtR (accI xs d t p 0) (.slice none 0 0) []) := by rw [HAC.out]; exact Own.nil _ _ _ _ _
        have HR5 : Hid (∀ g' ∈ rowOf (.slice none 0 0), g' ∉ F6) := fun g' hg' => by simp [rowOf_nil] at hg'
        have z0 : w6.cell? ⟨w.heap.size + 1, 0, none⟩ = some (.int .i64 p.op) := (KP6.out.cell 0).trans (by simp)
        have z5 : w6.cell? ⟨w.heap.size + 1, 5, none⟩ = some (.slice A4 p.ks.length cap4) := (KP6.out.cell 5).trans (by simp)
        have klt2 := KP6.out.lt
        have KG5 := KG6
        have HC5 := HC6
        have HA5 := HA6
        have KP5 := KP6
        have hsz5 := hsz6
        clear KG6 HC6 HA6 KP6 KT6 hsz6 gx gf hgl
        clear hn2 hn6
        go_wp2
        go_loopw [14, 62] (fun vv iv wr => ∃ i : Nat, i ≤ p.ks.length ∧ iv = .int .i64 i ∧ Hid (KidsOk xs d t p c i) ∧ Hid (p.op = 5 → 1 < i → orOk xs d t p = true) ∧ Hid (Own wr (w.heap.size + 2) 94 3 VtR (accI xs d t p i) vv []) ∧ Hid (∀ g' ∈ rowOf vv, g' ∉ F6) ∧ Hid (Blk wr g 3 #[.int .i64 ((c + 1 + kidSum p i : Nat) : Int)]) ∧ Hid (Chg [g] w wr) ∧ Hid (Arr wr (TyR wr) ls (.slice A6 ls.length cap6) F6 ∧ Under wr.heap.size F6) ∧ Hid (Blk wr (w.heap.size + 1) 37 #[.int .i64 p.op, .int .i64 p.ct, .int .i64 p.n, .int .i64 p.m, .int .i64 p.va, .slice A4 p.ks.length cap4]) ∧ w.heap.size + 2 ≤ wr.heap.size) (fun _ iv _ => p.ks.length - (intOf iv).toNat)
        case atStart => exact ⟨0, Nat.zero_le _, rfl, HK0, (fun _ h => by omega), HO5, HR5, (show Blk _ _ _ #[.int .i64 ((c + 1 + 0 : Nat) : Int)] from KG5.out), HC5, HA5, KP5, hsz5⟩
        case round =>
          clear hsz5
          obtain ⟨i, hi, rfl, HKI, HOR, HO, HRW, KG, HCG, HA6, KP, hsz⟩ := hrel
          have hrow0 := fun b hb => (HO.out.row b hb).1
          have HGR := Lib.hid (show g ∉ rowOf u14 from fun h => by have := hrow0 _ h; have := HGL.out; omega)
          clear hrow0
          by_cases hik : i < p.ks.length
          · have hil : i < ls.length := by rw [← HLN.out]; exact hik
            obtain ⟨b6, off6, rfl⟩ := HA6.out.1.ptr (by omega)
            have HAw := Lib.hid (ArrP.mono HA.out (HCG.out.kept HG.out (fun b hb h => HGG.out (by rw [← List.mem_singleton.1 h]; exact hb))))
            have HGw := Lib.hid (HG.out.mono HCG.out.size)
            have HXw := Lib.hid (ArrDt.mono HX.out (HCG.out.kept HF.out (fun b hb h => HGF.out (by rw [← List.mem_singleton.1 h]; exact hb))))
            have HFw := Lib.hid (HF.out.mono HCG.out.size)
            obtain ⟨b4, off4, rfl⟩ := HAw.out.ptr (by omega)
            obtain ⟨A7, cap7, G7, hb7, k0, k1, k2, k3, k4, k5, HV7, HG7, hG7G, -, -⟩ := ArrP.at HAw.out HGw.out (Below.refl _ _) i hik
            have HN7 : Hid (g ∉ G7) := fun h => HGG.out (hG7G _ h)
            clear hG7G
            have g1 : (0 : Int) ≤ (i : Int) := by omega
            have g2 : (i : Int) < (ls.length : Int) := by omega
            have g3 : (i : Int) < (p.ks.length : Int) := by omega
            have hwr : IntKind.i64.wrap ((deep : Int) + 1) = (deep : Int) + 1 := IntWalk.i64_in _ (by omega)
            obtain ⟨W7, hW7⟩ : ∃ W7, W7 = wr.alloc (.cells #[.int .i64 p.ks[i].op, .int .i64 p.ks[i].ct, .int .i64 p.ks[i].n, .int .i64 p.ks[i].m, .int .i64 p.ks[i].va, .slice A7 p.ks[i].ks.length cap7] 37) := ⟨_, rfl⟩
            have hb77 : Below wr.heap.size wr W7 := by rw [hW7]; exact (Below.refl _ _).alloc (Nat.le_refl _) _
            have KX : Hid (Blk W7 wr.heap.size 37 #[.int .i64 p.ks[i].op, .int .i64 p.ks[i].ct, .int .i64 p.ks[i].n, .int .i64 p.ks[i].m, .int .i64 p.ks[i].va, .slice A7 p.ks[i].ks.length cap7]) := by rw [hW7]; exact Blk.new _ _ _
            have KG7 := Lib.hid (KG.out.same (hb77.block _ KG.out.lt))
            have KP7 := Lib.hid (KP.out.same (hb77.block _ KP.out.lt))
            have HCG7 := Lib.hid (HCG.out.step hb77)
            have HX7 := Lib.hid (ArrDt.below HXw.out hb77 HFw.out)
            have HF7 := Lib.hid (HFw.out.mono hb77.size)
            have HV77 := Lib.hid (HV7.out.below hb77 HG7.out)
            have HG77 := Lib.hid (HG7.out.mono hb77.size)
            have HA67 : Hid (Arr W7 (TyR W7) ls (.slice (some ⟨b6, off6, none⟩) ls.length cap6) F6 ∧ Under W7.heap.size F6) := ⟨ArrTy.below HA6.out.1 hb77 HA6.out.2, HA6.out.2.mono hb77.size⟩
            have HO7 : Hid (Own W7 (w.heap.size + 2) 94 3 VtR (accI xs d t p i) u14 []) := HO.out.below (fun x cs G hk h => VtR_mono _ _ x cs G hk h) hb77
            have hgw : g < wr.heap.size := KG.out.lt
            have hne7 : wr.heap.size ≠ g := by omega
            have hsz7 := Nat.le_trans hsz hb77.size
            have hci : c + 1 + kidSum p i ≤ 60 := HKI.out.fit
            go_wp2_with fail
            rw [← hW7]
            clear hW7 k0 k1 k2 k3 k4 k5 hb7 HAw HGw HXw HFw HV7 HG7 KG HCG HA6 KP HO
            obtain ⟨hb6, a0, a1⟩ := ArrTy.at HA67.out.1 HA67.out.2 (Below.refl _ _) i hil
            have hb6n : b6 ≠ g := by
              obtain ⟨b', off', cs', G', e', hb', -⟩ := HA67.out.1.get TyR_len hil
              cases e'
              exact fun e => HN6.out _ hb' (by rw [e]; exact List.mem_singleton.2 rfl)
            have k0 : W7.cell? ⟨wr.heap.size, 0, none⟩ = some (.int .i64 p.ks[i].op) := (KX.out.cell 0).trans (by simp)
            have k1 : W7.cell? ⟨wr.heap.size, 1, none⟩ = some (.int .i64 p.ks[i].ct) := (KX.out.cell 1).trans (by simp)
            have k2 : W7.cell? ⟨wr.heap.size, 2, none⟩ = some (.int .i64 p.ks[i].n) := (KX.out.cell 2).trans (by simp)
            have k3 : W7.cell? ⟨wr.heap.size, 3, none⟩ = some (.int .i64 p.ks[i].m) := (KX.out.cell 3).trans (by simp)
            have k4 : W7.cell? ⟨wr.heap.size, 4, none⟩ = some (.int .i64 p.ks[i].va) := (KX.out.cell 4).trans (by simp)
            have k5 : W7.cell? ⟨wr.heap.size, 5, none⟩ = some (.slice A7 p.ks[i].ks.length cap7) := (KX.out.cell 5).trans (by simp)
            have kxl := KX.out.lt
            have HNE := Lib.hid (show b6 ∉ [g] from fun h => hb6n (List.mem_singleton.1 h))
            have HNE7 := Lib.hid (show wr.heap.size ∉ [g] from fun h => hne7 (List.mem_singleton.1 h))
            clear hb6n hne7 hgw
            have HCALL := Lib.hid (IH.out p.ks[i] (List.getElem_mem hik) xs HW.out d (deep + 1) (by omega) (by omega) ls[i] (HAI.out _ (List.getElem_mem hil)) W7.drew _ F _ G7 g (c + 1 + kidSum p i) (ArrDt.drew HX7.out) HF7.out HV77.out.drew HG77.out KG7.out HGF.out HN7.out hci)
            rw [show ((deep + 1 : Nat) : Int) = (deep : Int) + 1 by omega] at HCALL
            go_region_held3 (fun w' => w'.cell? ⟨b6, off6 + i * 2, none⟩ = some (.int .i64 ls[i].d) ∧ w'.cell? ⟨b6, off6 + i * 2 + 1, none⟩ = some (.int .i64 ls[i].i) ∧ w'.cell? ⟨wr.heap.size, 0, none⟩ = some (.int .i64 p.ks[i].op) ∧ w'.cell? ⟨wr.heap.size, 1, none⟩ = some (.int .i64 p.ks[i].ct) ∧ w'.cell? ⟨wr.heap.size, 2, none⟩ = some (.int .i64 p.ks[i].n) ∧ w'.cell? ⟨wr.heap.size, 3, none⟩ = some (.int .i64 p.ks[i].m) ∧ w'.cell? ⟨wr.heap.size, 4, none⟩ = some (.int .i64 p.ks[i].va) ∧ w'.cell? ⟨wr.heap.size, 5, none⟩ = some (.slice A7 p.ks[i].ks.length cap7)) (first | assumption | (exact ⟨a0, a1, k0, k1, k2, k3, k4, k5⟩) | (exact ⟨(hC'.cell hb6 HNE.out).trans a0, (hC'.cell hb6 HNE.out).trans a1, (hC'.cell kxl HNE7.out).trans k0, (hC'.cell kxl HNE7.out).trans k1, (hC'.cell kxl HNE7.out).trans k2, (hC'.cell kxl HNE7.out).trans k3, (hC'.cell kxl HNE7.out).trans k4, (hC'.cell kxl HNE7.out).trans k5⟩)) (first | (go_at_call 65; ((with_reducible refine HCALL.out.mono ?_); rintro e w' ⟨v', F', c', rfl, hC', hK', hy', -⟩)))
            have hC2 := hC'.undrew
            have HCG8 := Lib.hid (HCG7.out.trans hC2)
            have HK8 := Lib.hid hK'
            have HA68 : Hid (Arr w' (TyR w') ls (.slice (some ⟨b6, off6, none⟩) ls.length cap6) F6 ∧ Under w'.heap.size F6) := ⟨ArrTy.mono HA67.out.1 (hC2.kept HA67.out.2 HN6.out), HA67.out.2.mono hC2.size⟩
            have KP8 := Lib.hid (KP7.out.same (hC2.block _ KP7.out.lt (fun h => by have := List.mem_singleton.1 h; have := HGL.out; omega)))
            have HO8 : Hid (Own w' (w.heap.size + 2) 94 3 VtR (accI xs d t p i) u14 []) := HO7.out.mono (fun x cs G hk h => VtR_mono _ _ x cs G hk h) (hC2.kept (fun b hb => (HO7.out.row b (by simpa using hb)).2) (fun b hb h => HGR.out (by rw [← List.mem_singleton.1 h]; simpa using hb))) hC2.size
            have hsz8 := Nat.le_trans hsz7 hC2.size
            have HY := Lib.hid hy'
            have HSW := Lib.hid (show w.heap.size ≤ W7.heap.size from by omega)
            clear hwr hC' hC2 hK' hy' a0 a1 k0 k1 k2 k3 k4 k5 kxl hb6 HCALL KG7 HCG7 HX7 HF7 HV77 HG77 HA67 HO7 hsz7 hb77 KX
            cases e3 : scanPB xs d ls[i] p.ks[i] (c + 1 + kidSum p i) with
            | false =>
              have HFin := Lib.hid (HBad.out w' c' (HFail.out i hik hil HKI.out e3) HCG8.out HK8.out)
              clear e3
              go_wp2
              go_ret2
              exact HFin.out
            | true =>
              obtain ⟨hcc, hav, hfrv, hfsv⟩ := HY.out e3
              have HKN := Lib.hid (HNext.out i hik hil HKI.out e3)
              have hks := kidSum_succ p i hik
              obtain rfl : c' = c + 1 + kidSum p (i + 1) := by omega
              have HAV := Lib.hid hav
              have HUV := Lib.hid hfsv.under
              have HLY := Lib.hid (varsN_len xs d ls[i] p.ks[i])
              have HNK := Lib.hid (nodesP_mem hik)
              clear hav hfrv hfsv hks e3 HY hcc
              have z0 : w'.cell? ⟨w.heap.size + 1, 0, none⟩ = some (.int .i64 p.op) := (KP8.out.cell 0).trans (by simp)
              have klt2 := KP8.out.lt
              by_cases hor : p.op = 5 ∧ i = 1
              · have t5 : (p.op == 5) = true := by simp [hor.1]
                have t6 : ((i : Int) == 1) = true := by simp [hor.2]
                have HOR1 := Lib.hid hor.1
                have HOR2 := Lib.hid hor.2
                clear hor
                go_wp2_with fail
                refine (impl_sameVars (accI xs d t p i) (varsN xs d ls[i] p.ks[i]) w' _ _ _ F' HO8.out.arr (fun b hb => by
                  split at hb
                  · cases hb
                  · exact (HO8.out.row b (by simpa using hb)).2) HAV.out HUV.out).mono ?_
                rintro e w9 ⟨rfl, hb9⟩
                have hok : sameV (accI xs d t p i) (varsN xs d ls[i] p.ks[i]) = orOk xs d t p := HSame.out i hik hil HOR1.out HOR2.out
                rw [hok]
                have KP9 := Lib.hid (KP8.out.same (hb9.block _ KP8.out.lt))
                have KG9 := Lib.hid (HK8.out.same (hb9.block _ HK8.out.lt))
                have HC9 := Lib.hid (HCG8.out.step hb9)
                have HA9 : Hid (Arr w9 (TyR w9) ls (.slice (some ⟨b6, off6, none⟩) ls.length cap6) F6 ∧ Under w9.heap.size F6) := ⟨ArrTy.below HA68.out.1 hb9 HA68.out.2, HA68.out.2.mono hb9.size⟩
                have HO9 : Hid (Own w9 (w.heap.size + 2) 94 3 VtR (accI xs d t p (i + 1)) u14 []) := by
                  have h := HO8.out.below (fun x cs G hk h => VtR_mono _ _ x cs G hk h) hb9
                  rw [accI_or HOR1.out (by omega)]
                  rw [HOR2.out] at h
                  exact h
                have hsz9 := Nat.le_trans hsz8 hb9.size
                clear hok hb9 z0 klt2
                cases e4 : orOk xs d t p with
                | false =>
                  have HFin := Lib.hid (HBad.out w9 _ (HOrNo.out i hik HOR1.out HOR2.out HKN.out e4) HC9.out KG9.out)
                  clear e4
                  go_wp2
                  go_ret2
                  exact HFin.out
                | true =>
                  have HE4 := Lib.hid e4
                  clear e4
                  go_wp2
                  go_roundw
                  case rel => exact ⟨i + 1, by omega, by go_num, HKN, (fun _ _ => HE4.out), HO9, HRW, KG9, HC9, HA9, KP9, hsz9⟩
                  case measure => (simp [intOf] <;> omega)
              · obtain ⟨A9, cap9, rfl, h91, h92⟩ := HAV.out.form
                obtain ⟨i0, hi0, hz0, hz1, hz2⟩ := info_parts info_VtE
                have hn60 := HKN.out.fit
                have HL60 := Lib.hid (accI_len xs d t p i)
                have hpl : (accI xs d t p i).length + (varsN xs d ls[i] p.ks[i]).length ≤ 200 := by
                  have h1 := HL60.out
                  have h2 := HLY.out
                  have h3 := kidSum_succ p i hik
                  omega
                obtain ⟨v8, w8, hrun, ho8, hg8, hr8⟩ := run_append_vars (P := Tryz.prog) 78 78 i0 _ 24 Tryz.underlying78 hi0 hz0 hz1 hz2 rfl HO8.out HAV.out (by unfold maxLen; omega) (by omega) hsz8
                have HRUN := Lib.hid hrun
                have hC8 := grown_chg' hg8
                have hgr8 : g ∉ rowOf u14 := HGR.out
                have HO9 : Hid (Own w8 (w.heap.size + 2) 94 3 VtR (accI xs d t p (i + 1)) v8 []) := by rw [HAcc.out i hik hil hor]; exact ho8
                have HRW9 : Hid (∀ g' ∈ rowOf v8, g' ∉ F6) := fun g' hg' hF => by
                  rcases hr8 g' hg' with h | h
                  · exact HRW.out g' h hF
                  · have := HA68.out.2 g' hF; omega
                have KG9 := Lib.hid (HK8.out.same (hC8.block _ HK8.out.lt hgr8))
                have KP9 := Lib.hid (KP8.out.same (hC8.block _ KP8.out.lt (fun h => by have := (HO8.out.row _ h).1; omega)))
                have HC9 : Hid (Chg [g] w w8) := chg_grow HCG8.out hC8 (fun b hb => .inr (by have := (HO8.out.row _ hb).1; omega))
                have HA9 : Hid (Arr w8 (TyR w8) ls (.slice (some ⟨b6, off6, none⟩) ls.length cap6) F6 ∧ Under w8.heap.size F6) := ⟨ArrTy.mono HA68.out.1 (hC8.kept HA68.out.2 (fun b hb h => HRW.out b h hb)), HA68.out.2.mono hC8.size⟩
                have hsz9 := Nat.le_trans hsz8 hC8.size
                have HORn : Hid (p.op = 5 → 1 < i + 1 → orOk xs d t p = true) := fun h5 h1 => by
                  have := HL5.out h5
                  exact absurd ⟨h5, by omega⟩ hor
                clear hrun ho8 hg8 hr8 hC8 hgr8 hi0 hz0 hz1 hz2 HAV HUV hpl hn60
                by_cases h5 : p.op = 5
                · have t5 : (p.op == 5) = true := by simp [h5]
                  have t6 : ((i : Int) == 1) = false := by rw [beq_eq_false_iff_ne]; intro h; exact hor ⟨h5, by omega⟩
                  clear h5 hor
                  go_wp2_with (at_builtin; refine Halt.mk ?_)
                  refine Halt.of (wpList_app_run rfl _ _ 78 rfl (by rfl) (by rfl) HRUN.out ?_)
                  clear HRUN z0 klt2 t5
                  go_wp2
                  go_roundw
                  case rel => exact ⟨i + 1, by omega, by go_num, HKN, HORn, HO9, HRW9, KG9, HC9, HA9, KP9, hsz9⟩
                  case measure => (simp [intOf] <;> omega)
                · have t5 : (p.op == 5) = false := by simpa using h5
                  clear h5 hor
                  go_wp2_with (at_builtin; refine Halt.mk ?_)
                  refine Halt.of (wpList_app_run rfl _ _ 78 rfl (by rfl) (by rfl) HRUN.out ?_)
                  clear HRUN z0 klt2 t5
                  go_wp2
                  go_roundw
                  case rel => exact ⟨i + 1, by omega, by go_num, HKN, HORn, HO9, HRW9, KG9, HC9, HA9, KP9, hsz9⟩
                  case measure => (simp [intOf] <;> omega)
          · obtain ⟨wo, hwo⟩ : ∃ wo, wo = wr := ⟨_, rfl⟩
            subst hwo
            have HKE : Hid (KidsOk xs d t p c p.ks.length) := by have h := HKI.out; rwa [show i = p.ks.length by omega] at h
            have HOE : Hid (Own wo (w.heap.size + 2) 94 3 VtR (accI xs d t p p.ks.length) u14 []) := by have h := HO.out; rwa [show i = p.ks.length by omega] at h
            have KGE : Hid (Blk wo g 3 #[.int .i64 ((c + nodesP p : Nat) : Int)]) := by have h := KG.out; rw [show i = p.ks.length by omega] at h; rwa [kidSum_all p (Nat.le_refl _), ← Nat.add_assoc]
            have HFS := Lib.hid (HKE.out.fin (fun h5 => HOR.out h5 (by have := HL5.out h5; omega)))
            have HRG := Lib.hid (vars_range xs (d + 1) t p HKE.out.shape)
            have HLL := Lib.hid (varsN_len xs (d + 1) t p)
            have hln60 : (varsN xs (d + 1) t p).length ≤ 60 := by have h1 := HLL.out; have h2 := HKE.out.fit; have h3 := kidSum_all p (Nat.le_refl p.ks.length); omega
            have hacc := accI_done (xs := xs) (d := d) (t := t) (p := p) HL5.out
            rw [hacc] at HOE
            have hfinT : Hid (dupFree (varsN xs (d + 1) t p) = true → ∀ W, Below wo.heap.size wo W → ScanPP xs (d + 1) t p c g w (.returned (.tuple #[u14, .bool true])) W) := fun hd W hW => by
              have hT := HFS.out.trans hd
              have hO := HOE.out.below (fun x cs G hk h => VtR_mono _ _ x cs G hk h) hW
              exact ⟨u14, _, c + nodesP p, by rw [hT], HCG.out.step hW, KGE.out.same (hW.block _ KGE.out.lt), fun _ => ⟨rfl, hO.arr, hO.free (Free.nil _), hO.fresh (by omega) (fun b hb => by cases hb)⟩, fun h => by rw [hT] at h; cases h⟩
            have hfinF : Hid (dupFree (varsN xs (d + 1) t p) = false → ∀ W, Below wo.heap.size wo W → ScanPP xs (d + 1) t p c g w (.returned (.tuple #[.slice none 0 0, .bool false])) W) := fun hd W hW => HBad.out W _ (HFS.out.trans hd) (HCG.out.step hW) (KGE.out.same (hW.block _ KGE.out.lt))
            clear hacc HFS HLL
            generalize varsN xs (d + 1) t p = L at *
            obtain ⟨oA, ocap, hov, ho1, ho2⟩ := HOE.out.form
            subst hov
            have HAL := Lib.hid HOE.out.arr
            have HUL : Hid (Under wo.heap.size (if L = [] then [] else rowOf (.slice oA L.length ocap) ++ [])) := fun b hb => by
              split at hb
              · cases hb
              · exact (HOE.out.row b (by simpa using hb)).2
            generalize (if L = [] then [] else rowOf (.slice oA L.length ocap) ++ []) = FL at *
            have hbm : Below wo.heap.size wo (wo.alloc (.cells #[.bool false, .bool false, .bool false, .bool false, .bool false, .bool false] 120)) := (Below.refl _ _).alloc (Nat.le_refl _) _
            have KM : Hid (Blk (wo.alloc (.cells #[.bool false, .bool false, .bool false, .bool false, .bool false, .bool false] 120)) wo.heap.size 120 (metTo L 0)) := Blk.new _ _ _
            clear HO KG HRW HA6 KP HKI HOR HGR HKE HOE KGE HCG
            go_wp2
            go_loopw [101] (fun iv ws => ∃ i : Nat, i ≤ L.length ∧ iv = .int .i64 i ∧ Hid (∀ j (hj : j < L.length), j < i → ∀ k (hk : k < L.length), k < j → L[k].var ≠ L[j].var) ∧ Hid (Blk ws wo.heap.size 120 (metTo L i)) ∧ Hid (Below wo.heap.size wo ws)) (fun iv _ => L.length - (intOf iv).toNat)
            case atStart => exact ⟨0, Nat.zero_le _, rfl, (fun j hj h => by omega), KM, hbm⟩
            case round =>
              clear KM hbm
              obtain ⟨i, hi, rfl, HN, KM, HB⟩ := hrel
              by_cases hil : i < L.length
              · obtain ⟨bL, offL, rfl⟩ := HAL.out.ptr (by omega)
                obtain ⟨hbL, c0, c1, c2⟩ := ArrVt.at HAL.out HUL.out HB.out i hil
                have hrg := HRG.out L[i] (List.getElem_mem hil)
                obtain ⟨k, hk⟩ : ∃ k : Nat, L[i].var = (k : Int) := ⟨L[i].var.toNat, by omega⟩
                have hk6 : k < 6 := by omega
                have HNY := Lib.hid (fun (h : metB (L.take i) k = false) => met_yes hil hk h)
                have HNN := Lib.hid (fun (h : metB (L.take i) k = true) => met_no hil hk h)
                have HMS := Lib.hid (metTo_succ L hil hk6 hk)
                have g1 : (0 : Int) ≤ (i : Int) := by omega
                have g2 : (i : Int) < (L.length : Int) := by omega
                have g3 : (0 : Int) ≤ (k : Int) := by omega
                have g4 : (k : Int) < 6 := by omega
                rw [hk] at c0
                have hml := KM.out.lt
                have hBv : Below wr.heap.size wr (wr.alloc (.cells #[.int .i64 (k : Int), .int .i64 L[i].ty.d, .int .i64 L[i].ty.i] 94)) := (Below.refl _ _).alloc (Nat.le_refl _) _
                have KMv : Blk (wr.alloc (.cells #[.int .i64 (k : Int), .int .i64 L[i].ty.d, .int .i64 L[i].ty.i] 94)) wo.heap.size 120 (metTo L i) := KM.out.same (hBv.block _ hml)
                have m0 : (wr.alloc (.cells #[.int .i64 (k : Int), .int .i64 L[i].ty.d, .int .i64 L[i].ty.i] 94)).cell? ⟨wo.heap.size, k, none⟩ = some (.bool (metB (L.take i) k)) := (KMv.cell k).trans (metRow_get _ hk6)
                have mf0 : (wr.alloc (.cells #[.int .i64 (k : Int), .int .i64 L[i].ty.d, .int .i64 L[i].ty.i] 94)).frozen? ⟨wo.heap.size, k, none⟩ = false := KMv.frozen k
                have n0 : wr.cell? ⟨wo.heap.size, k, none⟩ = some (.bool (metB (L.take i) k)) := (KM.out.cell k).trans (metRow_get _ hk6)
                have nf0 : wr.frozen? ⟨wo.heap.size, k, none⟩ = false := KM.out.frozen k
                have hmlv := KMv.lt
                have HBv := Lib.hid (HB.out.trans (hBv.mono HB.out.size))
                have HKMv := Lib.hid KMv
                clear hrg hk KMv
                cases hm : metB (L.take i) k with
                | true =>
                  rw [hm] at m0 n0
                  have HFin := Lib.hid (hfinF.out (HNN.out hm) _ HBv.out)
                  clear hm
                  go_wp2
                  go_ret2
                  exact HFin.out
                | false =>
                  rw [hm] at m0 n0
                  have hny := HNY.out hm
                  have HN2 : Hid (∀ j (hj : j < L.length), j < i + 1 → ∀ k (hk : k < L.length), k < j → L[k].var ≠ L[j].var) := fun j hj hji => by
                    rcases Nat.lt_or_ge j i with h | h
                    · exact HN.out j hj h
                    · obtain rfl : j = i := by omega
                      exact hny
                  have KM1 : Blk (wr.setCell ⟨wo.heap.size, k, none⟩ (.bool true)) wo.heap.size 120 (metTo L (i + 1)) := by rw [← HMS.out]; exact KM.out.set_ k (.bool true)
                  have KM2 : Hid (Blk ((wr.setCell ⟨wo.heap.size, k, none⟩ (.bool true)).alloc (.cells #[.int .i64 (k : Int), .int .i64 L[i].ty.d, .int .i64 L[i].ty.i] 94)) wo.heap.size 120 (metTo L (i + 1))) := KM1.same (Below.heap_alloc _ _ _ KM1.lt)
                  have HB2 : Hid (Below wo.heap.size wo ((wr.setCell ⟨wo.heap.size, k, none⟩ (.bool true)).alloc (.cells #[.int .i64 (k : Int), .int .i64 L[i].ty.d, .int .i64 L[i].ty.i] 94))) := (HB.out.setCell (Nat.le_refl _) _).alloc (by have := HB.out.size; simpa [World.setCell] using this) _
                  clear KM1
                  clear hm hny
                  go_wp2
                  go_roundw
                  case rel => exact ⟨i + 1, by omega, by go_num, HN2, KM2, HB2⟩
                  case measure => (simp [intOf] <;> omega)
              · have HFin := Lib.hid (hfinT.out (dup_yes (fun j hj => HN.out j hj (by omega))) _ HB.out)
                go_wp2
                go_ret2
                exact HFin.out
theorem impl_patternScan : ∀ p, ScanIP p := P.indv patternScan_of
end Go.Proofs.YtilndhmegaccmaaGreatDoor

namespace Go.Proofs.YtilndhmegaccmaaGreatDoor
open Go.RowKit

def VarsIP (xs : List Dt) (t : Ty) (p : P) (w : World) (e : Ending) (w' : World) : Prop :=
  ∃ (v : Value) (F : List Nat), e = .returned (.tuple #[v, .bool (patOkB xs t p)]) ∧ Below w.heap.size w w' ∧ (patOkB xs t p = true → Arr w' (VtR w') (varsN xs 10 t p) v F ∧ Free w' F ∧ Fresh w w' F) ∧ (patOkB xs t p = false → v = .slice none 0 0)
theorem patOk_scan (xs : List Dt) (t : Ty) (p : P) : scanPB xs 10 t p 0 = patOkB xs t p := by unfold scanPB patOkB; rw [Nat.zero_add]
set_option maxRecDepth 100000 in
set_option maxHeartbeats 1600000 in
theorem impl_patternVars (xs : List Dt) (hw : WorldOK xs) (t : Ty) (ht : TyIn xs.length t) (p : P) (w : World) (x : Value) (F : List Nat) (cs : List Value) (G : List Nat) : Arr w (DtR w) xs x F → Under w.heap.size F → PR w p cs G → Under w.heap.size G →
    Calls Tryz.prog 47 #[x, .agg #[.int .i64 t.d, .int .i64 t.i], .agg cs.toArray] w (VarsIP xs t p w) := by
  intro hx hf hv hg
  obtain ⟨kv, rfl, ha⟩ := (PR_iff _ _ _).1 hv
  obtain ⟨A, cap, rfl, hc1, hc2⟩ := hx.form
  obtain ⟨A4, cap4, rfl, hc3, hc4⟩ := ha.form
  have HV := Lib.hid hv
  have HX := Lib.hid hx
  have HF := Lib.hid hf
  have HA := Lib.hid ha
  have HG := Lib.hid hg
  clear hx hf ha hg
  clear hv
  have HW := Lib.hid hw
  have HT := Lib.hid ht
  clear hw ht
  go_enter Tryz.func47, Tryz.ntmps47
  go_wp2_with fail
  obtain ⟨W2, hW2⟩ : ∃ W2, W2 = (((w.alloc (.cells #[.int .i64 t.d, .int .i64 t.i] 33)).alloc (.cells #[.int .i64 p.op, .int .i64 p.ct, .int .i64 p.n, .int .i64 p.m, .int .i64 p.va, .slice A4 p.ks.length cap4] 37)).alloc (.cells #[.int .i64 0] 3)) := ⟨_, rfl⟩
  have hB0 : Below w.heap.size w W2 := by rw [hW2]; exact (((Below.refl _ _).alloc (Nat.le_refl _) _).alloc (by simp) _).alloc (by simp; omega) _
  have KG : Hid (Blk W2 (w.heap.size + 2) 3 #[.int .i64 ((0 : Nat) : Int)]) := by
    rw [hW2]
    have h := Blk.new ((w.alloc (.cells #[.int .i64 t.d, .int .i64 t.i] 33)).alloc (.cells #[.int .i64 p.op, .int .i64 p.ct, .int .i64 p.n, .int .i64 p.m, .int .i64 p.va, .slice A4 p.ks.length cap4] 37)) 3 #[.int .i64 0]
    rw [show (((w.alloc (.cells #[.int .i64 t.d, .int .i64 t.i] 33)).alloc (.cells #[.int .i64 p.op, .int .i64 p.ct, .int .i64 p.n, .int .i64 p.m, .int .i64 p.va, .slice A4 p.ks.length cap4] 37))).heap.size = w.heap.size + 2 from by simp] at h
    exact h
  rw [← hW2]
  clear hW2
  refine (impl_patternScan p xs HW.out 10 1 rfl (Nat.le_refl _) t HT.out W2 _ F _ G (w.heap.size + 2) 0 (ArrDt.below HX.out hB0 HF.out) (HF.out.mono hB0.size) (HV.out.below hB0 HG.out) (HG.out.mono hB0.size) KG.out (fun h => by have := HF.out _ h; omega) (fun h => by have := HG.out _ h; omega) (by omega)).mono ?_
  rintro e w3 ⟨v3, F3, c', rfl, hC, -, hy, hn⟩
  rw [patOk_scan] at hy hn
  have hB3 := hB0.trans (hC.below (B := w.heap.size) (fun b hb => by rw [List.mem_singleton.1 hb]; omega) hB0.size)
  have HFin : Hid (VarsIP xs t p w (.returned (.tuple #[v3, .bool (patOkB xs t p)])) w3) := ⟨v3, F3, rfl, hB3, fun h => ⟨(hy h).2.1, (hy h).2.2.1, fun b hb => ⟨Nat.le_trans hB0.size ((hy h).2.2.2 b hb).1, ((hy h).2.2.2 b hb).2⟩⟩, hn⟩
  rw [patOk_scan]
  generalize patOkB xs t p = bb at *
  clear hC hy hn
  go_wp2
  go_ret2
  exact HFin.out
set_option maxRecDepth 100000 in
set_option maxHeartbeats 1600000 in
theorem impl_patternOk (xs : List Dt) (hw : WorldOK xs) (t : Ty) (ht : TyIn xs.length t) (p : P) (_ : p.size ≤ 1048576) (w : World) (x : Value) (F : List Nat) (cs : List Value) (G : List Nat) : Arr w (DtR w) xs x F → Under w.heap.size F → PR w p cs G → Under w.heap.size G →
    Calls Tryz.prog 31 #[x, .agg #[.int .i64 t.d, .int .i64 t.i], .agg cs.toArray] w fun e w' => e = .returned (.bool (patOkB xs t p)) ∧ Below w.heap.size w w' := by
  intro hx hf hv hg
  obtain ⟨kv, rfl, ha⟩ := (PR_iff _ _ _).1 hv
  obtain ⟨A, cap, rfl, hc1, hc2⟩ := hx.form
  obtain ⟨A4, cap4, rfl, hc3, hc4⟩ := ha.form
  have HV := Lib.hid hv
  have HX := Lib.hid hx
  have HF := Lib.hid hf
  have HA := Lib.hid ha
  have HG := Lib.hid hg
  clear hx hf ha hg
  clear hv
  have HW := Lib.hid hw
  have HT := Lib.hid ht
  clear hw ht
  go_enter Tryz.func31, Tryz.ntmps31
  go_wp2_with fail
  obtain ⟨W2, hW2⟩ : ∃ W2, W2 = ((w.alloc (.cells #[.int .i64 t.d, .int .i64 t.i] 33)).alloc (.cells #[.int .i64 p.op, .int .i64 p.ct, .int .i64 p.n, .int .i64 p.m, .int .i64 p.va, .slice A4 p.ks.length cap4] 37)) := ⟨_, rfl⟩
  have hB0 : Below w.heap.size w W2 := by rw [hW2]; exact ((Below.refl _ _).alloc (Nat.le_refl _) _).alloc (by simp) _
  have KT : Hid (Blk W2 w.heap.size 33 #[.int .i64 t.d, .int .i64 t.i]) := by rw [hW2]; exact (Blk.new w _ _).same (Below.heap_alloc _ _ _ (by simp))
  have KP : Hid (Blk W2 (w.heap.size + 1) 37 #[.int .i64 p.op, .int .i64 p.ct, .int .i64 p.n, .int .i64 p.m, .int .i64 p.va, .slice A4 p.ks.length cap4]) := by rw [hW2]; have h := Blk.new (w.alloc (.cells #[.int .i64 t.d, .int .i64 t.i] 33)) 37 #[.int .i64 p.op, .int .i64 p.ct, .int .i64 p.n, .int .i64 p.m, .int .i64 p.va, .slice A4 p.ks.length cap4]; rw [World.size_alloc] at h; exact h
  have hws : w.heap.size + 2 ≤ W2.heap.size := by rw [hW2]; simp
  have hws2 : W2.heap.size = w.heap.size + 1 + 1 := by rw [hW2]; simp
  rw [← hW2]
  clear hW2
  refine (impl_patternVars xs HW.out t HT.out p W2 _ F _ G (ArrDt.below HX.out hB0 HF.out) (HF.out.mono hB0.size) (HV.out.below hB0 HG.out) (HG.out.mono hB0.size)).mono ?_
  rintro e w3 ⟨v3, F3, rfl, hb3, -, -⟩
  have hB3 := hB0.trans (hb3.mono hB0.size)
  generalize hbb : patOkB xs t p = bb
  have HBB := Lib.hid hbb
  clear hb3 hbb
  go_wp2
  go_ret
  exact ⟨ret_bool HBB.out.symm, hB3⟩

set_option maxRecDepth 100000 in
set_option maxHeartbeats 1600000 in
theorem impl_PatternValid (xs : List Dt) (t : Ty) (p : P) (hz : p.size ≤ 1048576) (w : World) (x : Value) (F : List Nat) (cs : List Value) (G : List Nat) : Arr w (DtR w) xs x F → Under w.heap.size F → PR w p cs G → Under w.heap.size G →
    Calls Tryz.prog 19 #[x, .agg #[.int .i64 t.d, .int .i64 t.i], .agg cs.toArray] w fun e w' => e = .returned (.bool (patternValidB xs t p)) ∧ Below w.heap.size w w' := by
  intro hx hf hv hg
  obtain ⟨kv, rfl, ha⟩ := (PR_iff _ _ _).1 hv
  obtain ⟨A, cap, rfl, hc1, hc2⟩ := hx.form
  obtain ⟨A4, cap4, rfl, hc3, hc4⟩ := ha.form
  have HV := Lib.hid hv
  have HX := Lib.hid hx
  have HF := Lib.hid hf
  have HA := Lib.hid ha
  have HG := Lib.hid hg
  clear hx hf ha hg
  clear hv
  go_enter Tryz.func19, Tryz.ntmps19
  go_wp2_with fail
  obtain ⟨W2, hW2⟩ : ∃ W2, W2 = ((w.alloc (.cells #[.int .i64 t.d, .int .i64 t.i] 33)).alloc (.cells #[.int .i64 p.op, .int .i64 p.ct, .int .i64 p.n, .int .i64 p.m, .int .i64 p.va, .slice A4 p.ks.length cap4] 37)) := ⟨_, rfl⟩
  have hB0 : Below w.heap.size w W2 := by rw [hW2]; exact ((Below.refl _ _).alloc (Nat.le_refl _) _).alloc (by simp) _
  have KT : Hid (Blk W2 w.heap.size 33 #[.int .i64 t.d, .int .i64 t.i]) := by rw [hW2]; exact (Blk.new w _ _).same (Below.heap_alloc _ _ _ (by simp))
  have KP : Hid (Blk W2 (w.heap.size + 1) 37 #[.int .i64 p.op, .int .i64 p.ct, .int .i64 p.n, .int .i64 p.m, .int .i64 p.va, .slice A4 p.ks.length cap4]) := by rw [hW2]; have h := Blk.new (w.alloc (.cells #[.int .i64 t.d, .int .i64 t.i] 33)) 37 #[.int .i64 p.op, .int .i64 p.ct, .int .i64 p.n, .int .i64 p.m, .int .i64 p.va, .slice A4 p.ks.length cap4]; rw [World.size_alloc] at h; exact h
  have hws : w.heap.size + 2 ≤ W2.heap.size := by rw [hW2]; simp
  have hws2 : W2.heap.size = w.heap.size + 1 + 1 := by rw [hW2]; simp
  rw [← hW2]
  clear hW2
  have y0 : W2.cell? ⟨w.heap.size, 0, none⟩ = some (.int .i64 t.d) := (KT.out.cell 0).trans (by simp)
  have y1 : W2.cell? ⟨w.heap.size, 1, none⟩ = some (.int .i64 t.i) := (KT.out.cell 1).trans (by simp)
  have klt := KT.out.lt
  have z0 : W2.cell? ⟨w.heap.size + 1, 0, none⟩ = some (.int .i64 p.op) := (KP.out.cell 0).trans (by simp)
  have z1 : W2.cell? ⟨w.heap.size + 1, 1, none⟩ = some (.int .i64 p.ct) := (KP.out.cell 1).trans (by simp)
  have z2 : W2.cell? ⟨w.heap.size + 1, 2, none⟩ = some (.int .i64 p.n) := (KP.out.cell 2).trans (by simp)
  have z3 : W2.cell? ⟨w.heap.size + 1, 3, none⟩ = some (.int .i64 p.m) := (KP.out.cell 3).trans (by simp)
  have z4 : W2.cell? ⟨w.heap.size + 1, 4, none⟩ = some (.int .i64 p.va) := (KP.out.cell 4).trans (by simp)
  have z5 : W2.cell? ⟨w.heap.size + 1, 5, none⟩ = some (.slice A4 p.ks.length cap4) := (KP.out.cell 5).trans (by simp)
  have klt2 := KP.out.lt
  refine (impl_TypeValid xs t W2 _ F (ArrDt.below HX.out hB0 HF.out) (HF.out.mono hB0.size)).mono ?_
  rintro e w3 ⟨rfl, hb3⟩
  have hB3 := hB0.trans (hb3.mono hB0.size)
  have KT3 := Lib.hid (KT.out.same (hb3.block _ KT.out.lt))
  have KP3 := Lib.hid (KP.out.same (hb3.block _ KP.out.lt))
  clear y0 y1 z0 z1 z2 z3 z4 z5 klt klt2
  have y0 : w3.cell? ⟨w.heap.size, 0, none⟩ = some (.int .i64 t.d) := (KT3.out.cell 0).trans (by simp)
  have y1 : w3.cell? ⟨w.heap.size, 1, none⟩ = some (.int .i64 t.i) := (KT3.out.cell 1).trans (by simp)
  have klt := KT3.out.lt
  have z0 : w3.cell? ⟨w.heap.size + 1, 0, none⟩ = some (.int .i64 p.op) := (KP3.out.cell 0).trans (by simp)
  have z1 : w3.cell? ⟨w.heap.size + 1, 1, none⟩ = some (.int .i64 p.ct) := (KP3.out.cell 1).trans (by simp)
  have z2 : w3.cell? ⟨w.heap.size + 1, 2, none⟩ = some (.int .i64 p.n) := (KP3.out.cell 2).trans (by simp)
  have z3 : w3.cell? ⟨w.heap.size + 1, 3, none⟩ = some (.int .i64 p.m) := (KP3.out.cell 3).trans (by simp)
  have z4 : w3.cell? ⟨w.heap.size + 1, 4, none⟩ = some (.int .i64 p.va) := (KP3.out.cell 4).trans (by simp)
  have z5 : w3.cell? ⟨w.heap.size + 1, 5, none⟩ = some (.slice A4 p.ks.length cap4) := (KP3.out.cell 5).trans (by simp)
  have klt2 := KP3.out.lt
  clear hb3 KT KP
  cases e1 : typeValidB xs t with
  | false =>
    have hf : Hid (patternValidB xs t p = false) := by unfold Hid patternValidB; rw [e1]; rfl
    clear e1
    go_wp2
    go_ret
    exact ⟨ret_bool hf.out.symm, hB3⟩
  | true =>
    have hf : Hid (patternValidB xs t p = patOkB xs t p) := by unfold Hid patternValidB; rw [e1]; rfl
    obtain ⟨hw, hto⟩ := typeValid_split e1
    have HW := Lib.hid hw
    have HT := Lib.hid (typeOkB_tyIn hto)
    clear e1 hw hto
    go_wp2_with fail
    refine (impl_patternOk xs HW.out t HT.out p hz w3 _ F _ G (ArrDt.below HX.out hB3 HF.out) (HF.out.mono hB3.size) (HV.out.below hB3 HG.out) (HG.out.mono hB3.size)).mono ?_
    rintro e w4 ⟨rfl, hb4⟩
    have hB4 := hB3.trans (hb4.mono hB3.size)
    generalize patOkB xs t p = bb at *
    clear hb4
    go_wp2
    go_ret
    exact ⟨ret_bool hf.out.symm, hB4⟩
end Go.Proofs.YtilndhmegaccmaaGreatDoor

namespace Go.Proofs.YtilndhmegaccmaaGreatDoor
open Go.Shelf Go.RowKit

open Go.Shelf
def Shelflays156_ren : Go.Shelf.Ren := ⟨fun | 156 => 50 | 165 => 72 | 166 => 73 | 169 => 74 | 240 => 88 | 241 => 89 | 276 => 100 | 277 => 101 | n => n, fun | 31 => 64 | 9 => 9 | 3 => 3 | 4 => 4 | 0 => 0 | 20 => 20 | 72 => 108 | 76 => 112 | 70 => 106 | 37 => 75 | 75 => 111 | 127 => 123 | 164 => 136 | 5 => 5 | 80 => 114 | n => n, fun | n => n⟩
theorem Shelflays156 : Go.Proofs.Lays.n156 Tryz.prog Shelflays156_ren := {
  mixed := by kernel_rfl
  f156 := Tryz.func50.trans (congrArg some (by kernel_rfl))
  f165 := Tryz.func72.trans (congrArg some (by kernel_rfl))
  f166 := Tryz.func73.trans (congrArg some (by kernel_rfl))
  f169 := Tryz.func74.trans (congrArg some (by kernel_rfl))
  f240 := Tryz.func88.trans (congrArg some (by kernel_rfl))
  f241 := Tryz.func89.trans (congrArg some (by kernel_rfl))
  f276 := Tryz.func100.trans (congrArg some (by kernel_rfl))
  f277 := Tryz.func101.trans (congrArg some (by kernel_rfl))
  t0 := Tryz.underlying0
  a0 := Tryz.isAgg0
  z0 := Tryz.sizeOf0
  v0 := Tryz.zeroValue0
  t3 := Tryz.underlying3
  a3 := Tryz.isAgg3
  z3 := Tryz.sizeOf3
  v3 := Tryz.zeroValue3
  t4 := Tryz.underlying4
  a4 := Tryz.isAgg4
  z4 := Tryz.sizeOf4
  v4 := Tryz.zeroValue4
  t9 := Tryz.underlying9
  a9 := Tryz.isAgg9
  z9 := Tryz.sizeOf9
  v9 := Tryz.zeroValue9
  t20 := Tryz.underlying20
  a20 := Tryz.isAgg20
  z20 := Tryz.sizeOf20
  v20 := Tryz.zeroValue20
  t31 := Tryz.underlying64
  a31 := Tryz.isAgg64
  z31 := Tryz.sizeOf64
  v31 := Tryz.zeroValue64
  t37 := Tryz.underlying75
  a37 := Tryz.isAgg75
  z37 := Tryz.sizeOf75
  v37 := Tryz.zeroValue75
  t70 := Tryz.underlying106
  a70 := Tryz.isAgg106
  z70 := Tryz.sizeOf106
  v70 := Tryz.zeroValue106
  t72 := Tryz.underlying108
  a72 := Tryz.isAgg108
  z72 := Tryz.sizeOf108
  v72 := Tryz.zeroValue108
  t75 := Tryz.underlying111
  a75 := Tryz.isAgg111
  z75 := Tryz.sizeOf111
  v75 := Tryz.zeroValue111
  t76 := Tryz.underlying112
  a76 := Tryz.isAgg112
  z76 := Tryz.sizeOf112
  v76 := Tryz.zeroValue112
  t127 := Tryz.underlying123
  a127 := Tryz.isAgg123
  z127 := Tryz.sizeOf123
  v127 := Tryz.zeroValue123
  t164 := Tryz.underlying136
  a164 := Tryz.isAgg136
  z164 := Tryz.sizeOf136
  v164 := Tryz.zeroValue136 }
theorem ShelfBuilder_Extra_156 : Builder.Extra Tryz.prog Shelflays156_ren := {
  sizeBuilder := by kernel_rfl
  liesBuilder := by kernel_rfl
  t5 := Tryz.underlying5
  a5 := Tryz.isAgg5
  z5 := Tryz.sizeOf5
  v5 := Tryz.zeroValue5
  infoByte := by kernel_rfl
  cellsByte := by kernel_rfl
  sizeByte := by kernel_rfl
  neB5 := by decide }
open Go.RowKit in
/-- No element: the empty string; the world is as it was. (Whatever the slice's address and capacity: a nil slice too.) (LAID: no walk: one application.) -/
theorem Shelfstrings_Join_none (a : Option Addr) (c : Nat) (sep : ByteArray) (w : World) :
    Calls Tryz.prog 50 #[.slice a 0 c, .string sep] w fun e w' => e = .returned (.string ⟨#[]⟩) ∧ w' = w := Any.strings_Join_none Shelflays156 ShelfBuilder_Extra_156 a c sep w
open Go.RowKit in
/-- strings.Join: "Join concatenates the elements of its first argument to create a single string. The separator string sep is placed between elements in the resulting string.": HOWEVER MANY ELEMENTS. Below the heap's end the world is as it was. (LAID: no walk: one application.) -/
theorem Shelfstrings_Join (bk o c : Nat) (xs : List ByteArray) (sep : ByteArray) (w : World) (hcells : ∀ (j : Nat) x, xs[j]? = some x → w.cell? ⟨bk, o + j, none⟩ = some (.string x)) (hbk : bk < w.heap.size) (hN : xs.length ≤ 140737488355328) (hcap : xs.length ≤ c) (hlen : (Lib.join (xs.map (·.data.toList)) sep.data.toList).length ≤ 140737488355328) :
    Calls Tryz.prog 50 #[.slice (some ⟨bk, o, none⟩) xs.length c, .string sep] w fun e w' => e = .returned (.string ⟨(Lib.join (xs.map (·.data.toList)) sep.data.toList).toArray⟩) ∧ Below w.heap.size w w' := Any.strings_Join Shelflays156 ShelfBuilder_Extra_156 bk o c xs sep w hcells hbk hN hcap hlen

theorem join_call (ss : List ByteArray) (sep : ByteArray) (hl : ss.length ≤ 1000) (hj : (Lib.join (ss.map tl) (tl sep)).length ≤ 1000000) (w : World) (v : Value) (F : List Nat) (hx : Arr w (StrR w) ss v F) (hf : Under w.heap.size F) :
    Calls Tryz.prog 50 #[v, .string sep] w fun e w' => e = .returned (.string (bs (Lib.join (ss.map tl) (tl sep)))) ∧ Below w.heap.size w w' := by
  obtain ⟨A, cap, rfl, hc1, hc2⟩ := hx.form
  rcases Nat.eq_zero_or_pos ss.length with h0 | h0
  · have h1 : ss = [] := List.length_eq_zero_iff.1 h0
    subst h1
    refine (Shelfstrings_Join_none A cap sep w).mono ?_
    rintro e w' ⟨rfl, rfl⟩
    exact ⟨rfl, Below.refl _ _⟩
  · obtain ⟨b, off, rfl⟩ := hx.ptr h0
    have hat := ArrStr.at hx hf (Below.refl _ _) 0 h0
    refine (Shelfstrings_Join b off cap ss sep w (fun j x hj => ?_) hat.1 (by omega) hc1 (by show (Lib.join (ss.map tl) (tl sep)).length ≤ _; omega)).mono ?_
    · obtain ⟨hjl, hje⟩ := List.getElem?_eq_some_iff.1 hj
      rw [← hje]
      exact (ArrStr.at hx hf (Below.refl _ _) j hjl).2
    · rintro e w' ⟨rfl, hb⟩
      exact ⟨rfl, hb⟩
end Go.Proofs.YtilndhmegaccmaaGreatDoor

namespace Go.Proofs.YtilndhmegaccmaaGreatDoor
open Go.RowKit

set_option maxRecDepth 100000 in
set_option maxHeartbeats 1600000 in
theorem impl_listed (ss : List ByteArray) (hl : ss.length ≤ 1000) (hj : (Lib.join (ss.map tl) [44]).length ≤ 1000000) (w : World) (v : Value) (F : List Nat) (hx : Arr w (StrR w) ss v F) (hf : Under w.heap.size F) :
    Calls Tryz.prog 35 #[v] w fun e w' => e = .returned (.string (bs (listedT ss))) ∧ Below w.heap.size w w' := by
  obtain ⟨A, cap, rfl, hc1, hc2⟩ := hx.form
  have HX := Lib.hid hx
  have HF := Lib.hid hf
  clear hx hf
  by_cases h0 : ss = []
  · have t0 : ((ss.length : Int) == 0) = true := by rw [h0]; rfl
    have hf : Hid (bs (listedT ss) = ⟨#[]⟩) := by unfold Hid listedT; rw [if_pos h0]; rfl
    clear h0
    go_enter Tryz.func35, Tryz.ntmps35
    go_wp2
    go_ret
    exact ⟨ret_str hf.out.symm, Below.refl _ _⟩
  · have t0 : ((ss.length : Int) == 0) = false := by
      rw [beq_eq_false_iff_ne]; intro h; exact h0 (List.length_eq_zero_iff.1 (by omega))
    have hf0 : bs (listedT ss) = (bs [40] ++ bs (Lib.join (ss.map tl) [44])) ++ bs [41] := by
      unfold listedT; rw [if_neg h0, bs_append, bs_append]; rfl
    have hsz : (bs (Lib.join (ss.map tl) [44])).size ≤ 1000000 := by rw [bs_size]; exact hj
    have HJ := Lib.hid hj
    clear h0 hj
    obtain ⟨J, hJ⟩ : ∃ j, bs (Lib.join (ss.map tl) [44]) = j := ⟨_, rfl⟩
    rw [hJ] at hf0 hsz
    have HJJ := Lib.hid hJ
    have hf := Lib.hid hf0
    clear hJ hf0
    have hj1 : 1 + J.size ≤ 9223372036854775807 := by omega
    have hj3 : ¬ 9223372036854775807 < 1 + J.size := by omega
    have hj4 : 1 + J.size + 1 ≤ 9223372036854775807 := by omega
    have hj5 : ¬ 9223372036854775807 < 1 + J.size + 1 := by omega
    go_enter Tryz.func35, Tryz.ntmps35
    go_wp2_with fail
    refine (join_call ss ⟨#[44]⟩ hl HJ.out w _ F HX.out HF.out).mono ?_
    rintro e w' ⟨rfl, hb'⟩
    rw [show bs (Lib.join (ss.map tl) (tl ⟨#[44]⟩)) = J from HJJ.out]
    go_wp2
    go_ret
    exact ⟨ret_str hf.out.symm, hb'⟩
end Go.Proofs.YtilndhmegaccmaaGreatDoor

namespace Go.Proofs.YtilndhmegaccmaaGreatDoor
open Go.RowKit

section
variable {α : Type} {w w' : World} {B k : Nat} {E : TypeId} {R : World → α → List Value → List Nat → Prop} {xs : List α} {v : Value} {F : List Nat}
variable {P : Program}
theorem step_push {ops : Array Oper} {o : Oper} {a : Act} {K : Act → World → Prop} {Q : Exit → Act → World → Prop} {EE : Prop} (hgd : o.guard = none) (s x : Operand) (t : TypeId)
    (ho : o.op = .call { callee := .builtin .append, args := #[s, x], argTypes := #[t, t] })
    (i : TypeInfo) (z : Value) (bytes : Nat) (ht : P.underlying t = some (.slice E)) (hi : P.info? E = some i) (hz : i.zero = some z)
    (hsize : i.size = k) (hby : i.bytes = bytes) (hzs : z.cells.size = k) (hk : 0 < k)
    (hRl : ∀ x cs G, R w x cs G → cs.length = k) (hRm : ∀ w' x cs G, Kept G w w' → R w x cs G → R w' x cs G)
    (hs : a.eval s = v) (hown : Own w B E k R xs v F) (ys : List α) (ad : Addr) (c : Nat) (news : List Value) (G : List Nat)
    (hx : a.eval x = .slice (some ad) ys.length c) (hnews : ∀ j u, news[j]? = some u → w.cell? (ad.add j) = some u) (h1 : ∀ u ∈ news, u.oneCell' = true)
    (hys : Flat (R w) ys news G) (hG : Under w.heap.size G) (hvG : ∀ g ∈ rowOf v, g ∉ G)
    (hm : 0 < ys.length) (h63 : xs.length + ys.length ≤ maxLen) (hbytes : (xs.length + ys.length) * bytes ≤ 140737488355328) (hbase : B ≤ w.heap.size)
    (h : ∀ g cap w', Own w' B E k R (xs ++ ys) (.slice (some ⟨g, 0, none⟩) (xs.length + ys.length) cap) (F ++ G) → w.grownBy w' v.ownBlock → (v.ownBlock = some g ∨ g = w.heap.size) →
      K (a.put o.dst (.slice (some ⟨g, 0, none⟩) (xs.length + ys.length) cap)) w') : if Region.wanted o (yielded ops a.tmps) = true then Oper.wp P o a w K Q else EE := by
  obtain ⟨cs, h2, h3, h4, h5⟩ := id hown
  refine step_append_lies w hgd s x t ho B E i z k bytes ht hi hz hsize hby hzs hk v xs.length cs hs h2 ad ys.length c news hx (hys.length hRl) hnews h1 hm h63 hbytes hbase w.heap.size rfl
    fun g cap w1 hr hgr hat hlt => h g cap w1 ⟨cs ++ news, by rw [List.length_append]; exact hr, ?_, ?_, ?_⟩ hgr hat
  · exact (h3.mono fun x _ ds H hH hr => hRm w1 x ds H (grown_kept hgr (h4.sub hH) fun g hg hn => h5 g hg (hH g hn)) hr).append (hys.mono fun x _ ds H hH hr => hRm w1 x ds H (grown_kept hgr (hG.sub hH) fun g hg hn => hvG g hg (hH g hn)) hr)
  · intro b hb
    rcases List.mem_append.1 hb with hb | hb
    · exact Nat.lt_of_lt_of_le (h4 b hb) hgr.size
    · exact Nat.lt_of_lt_of_le (hG b hb) hgr.size
  · intro b hb hbF
    rw [rowOf_some, List.mem_singleton] at hb
    subst hb
    rcases hat with hat | rfl
    · rcases List.mem_append.1 hbF with hb | hb
      · exact h5 b (mem_rowOf.2 hat) hb
      · exact hvG b (mem_rowOf.2 hat) hb
    · rcases List.mem_append.1 hbF with hb | hb
      · exact Nat.lt_irrefl _ (h4 _ hb)
      · exact Nat.lt_irrefl _ (hG _ hb)


theorem step_push1 {ops : Array Oper} {o : Oper} {a : Act} {K : Act → World → Prop} {Q : Exit → Act → World → Prop} {EE : Prop} (hgd : o.guard = none) (s x : Operand) (t : TypeId)
    (ho : o.op = .call { callee := .builtin .append, args := #[s, x], argTypes := #[t, t] })
    (i : TypeInfo) (z : Value) (bytes : Nat) (ht : P.underlying t = some (.slice E)) (hi : P.info? E = some i) (hz : i.zero = some z)
    (hsize : i.size = k) (hby : i.bytes = bytes) (hzs : z.cells.size = k) (hk : 0 < k)
    (hRl : ∀ w x cs G, R w x cs G → cs.length = k) (hRm : ∀ w w' x cs G, Kept G w w' → R w x cs G → R w' x cs G)
    (hs : a.eval s = v) (hown : Own w B E k R xs v F) (y : α) (T : TypeId) (news : List Value) (G : List Nat)
    (H : Nat) (hx : a.eval x = .slice (some ⟨H, 0, none⟩) 1 1) (hH : w.heap.size = H) (h1 : ∀ u ∈ news, u.oneCell' = true)
    (hy : R w y news G) (hG : Under w.heap.size G) (hvG : ∀ g ∈ rowOf v, g ∉ G)
    (h63 : xs.length + 1 ≤ maxLen) (hbytes : (xs.length + 1) * bytes ≤ 140737488355328) (hbase : B ≤ w.heap.size)
    (h : ∀ g cap w', Own w' B E k R (xs ++ [y]) (.slice (some ⟨g, 0, none⟩) (xs.length + 1) cap) (F ++ G) → (w.alloc (.cells news.toArray T)).grownBy w' v.ownBlock → (v.ownBlock = some g ∨ g = w.heap.size + 1) →
      K (a.put o.dst (.slice (some ⟨g, 0, none⟩) (xs.length + 1) cap)) w') : if Region.wanted o (yielded ops a.tmps) = true then Oper.wp P o a (w.alloc (.cells news.toArray T)) K Q else EE := by
  subst hH
  have hb := (Below.refl w.heap.size w).alloc (Nat.le_refl _) (.cells news.toArray T)
  have hk1 : Kept G w (w.alloc (.cells news.toArray T)) := .of_below hb hG
  refine step_push hgd s x t ho i z bytes ht hi hz hsize hby hzs hk (hRl _) (fun w' => hRm _ w') hs (hown.below (fun x cs G hk h => hRm _ _ x cs G hk h) hb) [y] ⟨w.heap.size, 0, none⟩ 1 news G hx ?_ h1 (Flat.one (hRm _ _ _ _ _ hk1 hy)) (hG.mono hb.size) hvG Nat.zero_lt_one h63 hbytes (Nat.le_trans hbase hb.size)
    (fun g cap w' h2 h3 h4 => h g cap w' h2 h3 (by simpa using h4))
  intro j u hj
  exact World.news_of_block (heap_alloc_new w (.cells news.toArray T)) j u (by simpa using hj)
end
end Go.Proofs.YtilndhmegaccmaaGreatDoor
