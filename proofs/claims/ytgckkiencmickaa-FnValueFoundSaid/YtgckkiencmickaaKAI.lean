/-
  Lemmas and contracts of functions: DrawValueSame of the reference: two values. Conditions: none. DrawCompareValues of the reference: two values. Conditions: none. Contracts of the two functions CompareValues and of what they call. Conditions: none. ValueSame of the reference: equality of Values. Conditions: none. The order of values is total, and equality in it is equality (plain). Conditions: none. Contracts of the program's CompareValues, by cmp.Or and slices.CompareFunc. Conditions: none. ValueSame of the program, by slices.EqualFunc: equality of Values. Conditions: none.
-/
import Derived.Test.YtgckkiencmickaaKAF
import Derived.Test.YtgckkiencmickaaKAG
import Derived.Test.YtgckkiencmickaaKAB
import Derived.Test.YtgckkiencmickaaChecked
import Derived.Deep.RegionHeld3
import Derived.Deep.RegionWith
import Derived.BigQuiet

set_option linter.unusedVariables false
set_option linter.unusedSimpArgs false

namespace Go.Proofs.Ytgckkiencmickaa
open Go.RowKit

theorem results_cell2V {P : Program} {fn : Func} {p1 p2 : Tmp} {ty1 ty2 : TypeId} (h : fn.results = #[.cell p1 ty1, .cell p2 ty2]) (tmps : Array Value) (w : World) (g1 g2 : Nat) (t1 t2 : TypeId) (cs1 cs2 : Array Value) (fr1 fr2 : Nat × Nat) (d1 d2 : TypeDesc)
    (hp1 : tmps.getD p1 undef = .pointer (some ⟨g1, 0, none⟩)) (hg1 : w.heap[g1]? = some (.cells cs1 t1 fr1)) (hu1 : P.underlying ty1 = some d1) (hd1 : (match d1 with | .struct _ | .array _ _ => true | _ => false) = true) (hi1 : (P.info? ty1).map (·.size) = some cs1.size)
    (hp2 : tmps.getD p2 undef = .pointer (some ⟨g2, 0, none⟩)) (hg2 : w.heap[g2]? = some (.cells cs2 t2 fr2)) (hu2 : P.underlying ty2 = some d2) (hd2 : (match d2 with | .struct _ | .array _ _ => true | _ => false) = true) (hi2 : (P.info? ty2).map (·.size) = some cs2.size) :
    (results fn tmps).run P w = .ok (.tuple #[.agg cs1, .agg cs2]) w := by
  have hp1' : tmps[p1]?.getD undef = .pointer (some ⟨g1, 0, none⟩) := by simpa using hp1
  have hp2' : tmps[p2]?.getD undef = .pointer (some ⟨g2, 0, none⟩) := by simpa using hp2
  simp [results, h, hp1', hp2', asAddr, run_loadVar_row w g1 t1 ty1 cs1 fr1 d1 hg1 hu1 hd1 hi1, run_loadVar_row w g2 t2 ty2 cs2 fr2 d2 hg2 hu2 hd2 hi2]
/-- two values -/
def DrewVV (w : World) (e : Ending) (w' : World) : Prop := ∃ (a b : V) (cs ds : List Value) (F G : List Nat), e = .returned (.tuple #[.agg cs.toArray, .agg ds.toArray]) ∧ Below w.heap.size w w' ∧ VR w' a cs F ∧ Fresh w w' F ∧ VR w' b ds G ∧ Fresh w w' G ∧ nodes a ≤ 600000 ∧ nodes b ≤ 600000
set_option maxRecDepth 100000 in
set_option maxHeartbeats 8000000 in
theorem spec_DrawValueSame (bs : List Int) (w : World) (v : Value) (F : List Nat) (hx : Arr w (ByR w) bs v F) (hf : Under w.heap.size F) :
    Calls Try.prog 39 #[v] w (DrewVV w) := by
  have hB2 : Below w.heap.size w ((w.alloc (.cells #[.int .i64 0, .int .i64 0, .slice none 0 0] 25)).alloc (.cells #[.int .i64 0, .int .i64 0, .slice none 0 0] 25)) := ((Below.refl _ _).alloc (Nat.le_refl _) _).alloc (by simp) _
  have K22 : Hid (Blk ((w.alloc (.cells #[.int .i64 0, .int .i64 0, .slice none 0 0] 25)).alloc (.cells #[.int .i64 0, .int .i64 0, .slice none 0 0] 25)) (w.heap.size) 25 #[.int .i64 0, .int .i64 0, .slice none 0 0]) := (Blk.new w _ _).same (Below.heap_alloc _ _ _ (by simp))
  have K32 : Hid (Blk ((w.alloc (.cells #[.int .i64 0, .int .i64 0, .slice none 0 0] 25)).alloc (.cells #[.int .i64 0, .int .i64 0, .slice none 0 0] 25)) (w.heap.size + 1) 25 #[.int .i64 0, .int .i64 0, .slice none 0 0]) := blk_second w _ 25 _
  have hs2 : (((w.alloc (.cells #[.int .i64 0, .int .i64 0, .slice none 0 0] 25)).alloc (.cells #[.int .i64 0, .int .i64 0, .slice none 0 0] 25))).heap.size = w.heap.size + 2 := by simp
  have HX2 : Hid (Arr ((w.alloc (.cells #[.int .i64 0, .int .i64 0, .slice none 0 0] 25)).alloc (.cells #[.int .i64 0, .int .i64 0, .slice none 0 0] 25)) (ByR ((w.alloc (.cells #[.int .i64 0, .int .i64 0, .slice none 0 0] 25)).alloc (.cells #[.int .i64 0, .int .i64 0, .slice none 0 0] 25))) bs v F) := ArrBy.mono hx (.of_below hB2 hf)
  have HU2 : Hid (Under (((w.alloc (.cells #[.int .i64 0, .int .i64 0, .slice none 0 0] 25)).alloc (.cells #[.int .i64 0, .int .i64 0, .slice none 0 0] 25))).heap.size F) := hf.mono hB2.size
  clear hx hf
  go_enter Try.func39, Try.ntmps39
  go_wp2_with fail
  obtain ⟨w2, hw2⟩ : ∃ X, X = ((w.alloc (.cells #[.int .i64 0, .int .i64 0, .slice none 0 0] 25)).alloc (.cells #[.int .i64 0, .int .i64 0, .slice none 0 0] 25)) := ⟨_, rfl⟩
  rw [← hw2] at hB2 K22 K32 hs2 HX2 HU2 ⊢
  clear hw2
  refine (spec_l17Open bs w2 v F HX2.out HU2.out).mono ?_
  rintro e w3 ⟨g, rfl, hge, hb3, hR3⟩
  have HR3 := Lib.hid hR3
  have hg3 : g < w3.heap.size := hR3.lt
  have hB3 : Below w.heap.size w w3 := hB2.trans (hb3.mono hB2.size)
  have K23 := Lib.hid (K22.out.same (hb3.block _ K22.out.lt))
  have K33 := Lib.hid (K32.out.same (hb3.block _ K32.out.lt))
  clear hR3 hb3 K22 K32 HX2 HU2 hB2
  go_wp2_with fail
  refine (spec_l2Typed 0 g w3 HR3.out (by omega)).mono ?_
  rintro e w4 ⟨xs, v4, FW, t, a, csa, Fa, q4, rfl, htok, ha4, hfs4, hp4, hf4, hn4, hr4, hq4, hc4⟩
  obtain ⟨kva, rfl, haa⟩ := (VR_iff _ _ _).1 hp4
  obtain ⟨pA, pcap, rfl, -, -⟩ := haa.form
  obtain ⟨A1, cap1, rfl, -, -⟩ := ha4.form
  have hz4 := hc4.size
  have hB4 : Below w.heap.size w w4 := hB3.trans (hc4.below (fun b hb => by rw [List.mem_singleton] at hb; omega) hB3.size)
  have K24 := Lib.hid (K23.out.same (hc4.block _ K23.out.lt (by rw [List.mem_singleton]; omega)))
  have K34 := Lib.hid (K33.out.same (hc4.block _ K33.out.lt (by rw [List.mem_singleton]; omega)))
  have HTOK := Lib.hid htok
  have HFW : Hid (∀ b ∈ FW, w3.heap.size ≤ b) := fun b hb => (hfs4 b hb).1
  have HFA : Hid (∀ b ∈ Fa, w3.heap.size ≤ b ∧ b ≠ g) := fun b hb => ⟨(hf4 b hb).1, by have := (hf4 b hb).1; omega⟩
  have HNA : Hid (nodes a ≤ 600000) := by unfold Hid; omega
  have hna : nodes a ≤ 256 := hn4
  have hb5 : Below w4.heap.size w4 ((w4.alloc (.cells #[.int .i64 t.d, .int .i64 t.i] 36)).alloc (.cells #[.int .i64 a.c, .int .i64 a.n, .slice pA a.ks.length pcap] 25)) := ((Below.refl _ _).alloc (Nat.le_refl _) _).alloc (by simp) _
  have KB5 : Hid (Blk ((w4.alloc (.cells #[.int .i64 t.d, .int .i64 t.i] 36)).alloc (.cells #[.int .i64 a.c, .int .i64 a.n, .slice pA a.ks.length pcap] 25)) w4.heap.size 36 #[.int .i64 t.d, .int .i64 t.i]) := (Blk.new w4 _ _).same (Below.heap_alloc _ _ _ (by simp))
  have KC5 : Hid (Blk ((w4.alloc (.cells #[.int .i64 t.d, .int .i64 t.i] 36)).alloc (.cells #[.int .i64 a.c, .int .i64 a.n, .slice pA a.ks.length pcap] 25)) (w4.heap.size + 1) 25 #[.int .i64 a.c, .int .i64 a.n, .slice pA a.ks.length pcap]) := blk_second w4 _ 25 _
  have HA5 := Lib.hid (ArrDt.below ha4 hb5 (Fresh.under hfs4))
  have HUW5 : Hid (Under (((w4.alloc (.cells #[.int .i64 t.d, .int .i64 t.i] 36)).alloc (.cells #[.int .i64 a.c, .int .i64 a.n, .slice pA a.ks.length pcap] 25))).heap.size FW) := (Fresh.under hfs4).mono hb5.size
  have HP5 := Lib.hid (VR.below hp4 hb5 (fun b hb => (hf4 b hb).2))
  have HUa5 : Hid (Under (((w4.alloc (.cells #[.int .i64 t.d, .int .i64 t.i] 36)).alloc (.cells #[.int .i64 a.c, .int .i64 a.n, .slice pA a.ks.length pcap] 25))).heap.size Fa) := fun b hb => Nat.lt_of_lt_of_le (hf4 b hb).2 hb5.size
  have HR5 := Lib.hid (hr4.below hb5)
  have HB5 : Hid (Below w.heap.size w ((w4.alloc (.cells #[.int .i64 t.d, .int .i64 t.i] 36)).alloc (.cells #[.int .i64 a.c, .int .i64 a.n, .slice pA a.ks.length pcap] 25))) := hB4.trans (hb5.mono hB4.size)
  have K25 := Lib.hid (K24.out.same (hb5.block _ K24.out.lt))
  have K35 := Lib.hid (K34.out.same (hb5.block _ K34.out.lt))
  clear htok ha4 hfs4 hp4 hf4 hn4 hr4 hc4 haa hb5 K23 K33 K24 K34 HR3 hB3 hB4
  go_wp2_with fail
  obtain ⟨w5, hw5⟩ : ∃ X, X = ((w4.alloc (.cells #[.int .i64 t.d, .int .i64 t.i] 36)).alloc (.cells #[.int .i64 a.c, .int .i64 a.n, .slice pA a.ks.length pcap] 25)) := ⟨_, rfl⟩
  rw [← hw5] at KB5 KC5 HA5 HUW5 HP5 HUa5 HR5 HB5 K25 K35 ⊢
  clear hw5
  obtain ⟨k, hk⟩ : ∃ X, X = w4.heap.size := ⟨_, rfl⟩
  obtain ⟨kp, hkp⟩ : ∃ X, X = k + 1 := ⟨_, rfl⟩
  rw [← hk] at KB5 KC5 hz4 ⊢
  rw [← hkp] at KC5
  first | rw [← hkp] | skip
  have hkn : k < kp := by omega
  have HKH := Lib.hid (And.intro hk hkp)
  clear hk hkp
  refine (pick_any 2 q4 g w5 HR5.out (by omega) (by omega) (by omega)).mono ?_
  rintro e w6 ⟨r, rfl, hr2, hR6, hc6⟩
  have HR6 := Lib.hid hR6
  have HB6 : Hid (Below w.heap.size w w6) := HB5.out.trans (hc6.below (fun b hb => by rw [List.mem_singleton] at hb; omega) HB5.out.size)
  have hn1 : ∀ b, b < g ∨ w3.heap.size ≤ b → b ∉ [g] := fun b hb h => by rw [List.mem_singleton] at h; omega
  have K26 := Lib.hid (K25.out.same (hc6.block _ K25.out.lt (hn1 _ (.inl (by omega)))))
  have K36 := Lib.hid (K35.out.same (hc6.block _ K35.out.lt (hn1 _ (.inl (by omega)))))
  have KB6 := Lib.hid (KB5.out.same (hc6.block _ KB5.out.lt (hn1 _ (.inr (by omega)))))
  have KC6 := Lib.hid (KC5.out.same (hc6.block _ KC5.out.lt (hn1 _ (.inr (by omega)))))
  have HA6 := Lib.hid (ArrDt.mono HA5.out (hc6.kept HUW5.out (fun b hb => hn1 b (.inr (HFW.out b hb)))))
  have HUW6 : Hid (Under w6.heap.size FW) := HUW5.out.mono hc6.size
  have HP6 := Lib.hid (VR.mono _ _ _ (hc6.kept HUa5.out (fun b hb => hn1 b (.inr (HFA.out b hb).1))) HP5.out)
  have HUa6 : Hid (Under w6.heap.size Fa) := HUa5.out.mono hc6.size
  have hk6 : kp < w6.heap.size := KC6.out.lt
  obtain ⟨zs, hzs⟩ := HR6.out.bytes
  obtain ⟨B, hB1, hB2', hB3⟩ := pot_big zs hzs.le hzs.len (q4 + 1) (by omega)
  have HRB6 := Lib.hid hzs
  have HB3 := Lib.hid hB3
  clear hzs hB3
  clear hR6 hc6 K25 K35 KB5 KC5 HA5 HUW5 HP5 HUa5 HR5 HB5 hn1
  cases q0 : ((r : Int) == 0) with
  | true =>
    go_wp2_with fail
    clear q0
    have HS : Hid (∀ C : World, Chg [g, w.heap.size, w.heap.size + 1] w6 C → (C.cell? ⟨kp, 0, none⟩ = some (.int .i64 a.c) ∧ C.cell? ⟨kp, 1, none⟩ = some (.int .i64 a.n) ∧ C.cell? ⟨kp, 2, none⟩ = some (.slice pA a.ks.length pcap) ∧ C.cell? ⟨k, 0, none⟩ = some (.int .i64 t.d) ∧ C.cell? ⟨k, 1, none⟩ = some (.int .i64 t.i))) := fun C hC => ⟨(hC.cell hk6 (by simp; omega)).trans ((KC6.out.cell 0).trans (by simp)), (hC.cell hk6 (by simp; omega)).trans ((KC6.out.cell 1).trans (by simp)), (hC.cell hk6 (by simp; omega)).trans ((KC6.out.cell 2).trans (by simp)), (hC.cell (Nat.lt_trans hkn hk6) (by simp; omega)).trans ((KB6.out.cell 0).trans (by simp)), (hC.cell (Nat.lt_trans hkn hk6) (by simp; omega)).trans ((KB6.out.cell 1).trans (by simp))⟩
    have hC0 : Chg [g, w.heap.size, w.heap.size + 1] w6 w6.drew := (Chg.refl _ _).drew
    have K2d : Hid (Blk w6.drew (w.heap.size) 25 #[.int .i64 0, .int .i64 0, .slice none 0 0]) := K26.out
    have K3d : Hid (Blk w6.drew (w.heap.size + 1) 25 #[.int .i64 0, .int .i64 0, .slice none 0 0]) := K36.out
    have HPd : Hid (VR w6.drew a [.int .i64 a.c, .int .i64 a.n, .slice pA a.ks.length pcap] Fa) := VR.drew HP6.out
    have HUd : Hid (Under w6.drew.heap.size Fa) := HUa6.out
    have HRd : Hid (RdB w6.drew g zs (q4 + 1)) := HRB6.out.keep (fun b hb => rfl)
    have HAd : Hid (Arr w6.drew (DtR w6.drew) xs (.slice A1 xs.length cap1) FW) := ArrDt.drew HA6.out
    have HWd : Hid (Under w6.drew.heap.size FW) := HUW6.out
    refine wp_region_B (S := fun w' => w'.cell? ⟨kp, 0, none⟩ = some (.int .i64 a.c) ∧ w'.cell? ⟨kp, 1, none⟩ = some (.int .i64 a.n) ∧ w'.cell? ⟨kp, 2, none⟩ = some (.slice pA a.ks.length pcap) ∧ w'.cell? ⟨k, 0, none⟩ = some (.int .i64 t.d) ∧ w'.cell? ⟨k, 1, none⟩ = some (.int .i64 t.i)) (T := fun _ => True) (d := 99) (by kernel_rfl) ?_
    obtain ⟨wd, hwd⟩ : ∃ X, X = w6.drew := ⟨_, rfl⟩
    have hzd : w6.heap.size ≤ wd.heap.size := by rw [hwd]; exact Nat.le_refl _
    rw [← hwd] at hC0 K2d K3d HPd HUd HRd HAd HWd ⊢
    clear hwd
    have hS0 := HS.out _ hC0
    have hT0 : True := trivial
    refine wpAnyB_take (i := 0) (v := ?_) rfl (by decide) (by kernel_rfl) (by kernel_rfl) (by kernel_rfl) (fun _ _ _ h => h) (Or.inl ⟨by rfl, ?hy0⟩) hS0 (fun _ => hT0) ?_
    case hy0 => (intro W hSw; (try dsimp only at hSw); (try obtain ⟨hSw0, hSw1, hSw2, hSw3, hSw4⟩ := hSw); go_simp; try with_reducible rfl)
    (try simp only [Act.put, List.getElem_toArray, List.getElem_cons_zero, List.getElem_cons_succ, List.setIfInBounds_toArray, List.set_cons_zero, List.set_cons_succ])
    refine wpAnyB_take (i := 1) (v := ?_) rfl (by decide) (by kernel_rfl) (by kernel_rfl) (by kernel_rfl) (fun _ _ _ h => h) (Or.inl ⟨by rfl, ?hy1⟩) hS0 (fun _ => hT0) ?_
    case hy1 => (intro W hSw; (try dsimp only at hSw); (try obtain ⟨hSw0, hSw1, hSw2, hSw3, hSw4⟩ := hSw); go_simp; try with_reducible rfl)
    (try simp only [Act.put, List.getElem_toArray, List.getElem_cons_zero, List.getElem_cons_succ, List.setIfInBounds_toArray, List.set_cons_zero, List.set_cons_succ])
    refine wpAnyB_take (i := 2) (v := ?_) rfl (by decide) (by kernel_rfl) (by kernel_rfl) (by kernel_rfl) (fun _ _ _ h => h) (Or.inl ⟨by rfl, ?hy2⟩) hS0 (fun _ => hT0) ?_
    case hy2 => (intro W hSw; (try dsimp only at hSw); (try obtain ⟨hSw0, hSw1, hSw2, hSw3, hSw4⟩ := hSw); go_simp; try with_reducible rfl)
    (try simp only [Act.put, List.getElem_toArray, List.getElem_cons_zero, List.getElem_cons_succ, List.setIfInBounds_toArray, List.set_cons_zero, List.set_cons_succ])
    refine wpAnyB_take (i := 3) (v := ?_) rfl (by decide) (by kernel_rfl) (by kernel_rfl) (by kernel_rfl) (fun _ _ _ h => h) (Or.inl ⟨by rfl, ?hy3⟩) hS0 (fun _ => hT0) ?_
    case hy3 => (intro W hSw; (try dsimp only at hSw); (try obtain ⟨hSw0, hSw1, hSw2, hSw3, hSw4⟩ := hSw); go_simp; try with_reducible rfl)
    (try simp only [Act.put, List.getElem_toArray, List.getElem_cons_zero, List.getElem_cons_succ, List.setIfInBounds_toArray, List.set_cons_zero, List.set_cons_succ])
    refine wpAnyB_take (i := 5) (v := ?_) rfl (by decide) (by kernel_rfl) (by kernel_rfl) (by kernel_rfl) (fun _ _ _ h => h) (Or.inl ⟨by rfl, ?hy5⟩) hS0 (fun _ => hT0) ?_
    case hy5 => (intro W hSw; (try dsimp only at hSw); (try obtain ⟨hSw0, hSw1, hSw2, hSw3, hSw4⟩ := hSw); go_simp; try with_reducible rfl)
    (try simp only [Act.put, List.getElem_toArray, List.getElem_cons_zero, List.getElem_cons_succ, List.setIfInBounds_toArray, List.set_cons_zero, List.set_cons_succ])
    refine wpAnyB_ready (rs := [4]) (by kernel_rfl) (by simp) ?_
    refine AllReadyB.cons rfl (fun K hK => ?_) AllReadyB.nil
    go_simp
    go_at_call 88
    refine (spec_l1Table xs (worldOK HTOK.out.ok) wd _ FW HAd.out HWd.out).mono ?_
    rintro e C1 ⟨uT, FT, rfl, hb1, hy1, -, hft⟩
    obtain ⟨tA, tcap, rfl, -, -⟩ := hy1.form
    have hc1 : Chg [g] wd C1 := .of_below hb1
    have HTB := Lib.hid hy1
    have HTU := Lib.hid hft.under
    have HFT : Hid (∀ b ∈ FT, wd.heap.size ≤ b) := fun b hb => (hft b hb).1
    have hgw := HRd.out.lt
    clear hy1 hft
    have hC1 : Chg [g, w.heap.size, w.heap.size + 1] w6 C1 := hC0.trans (hc1.mono (by simp))
    have K21 := Lib.hid (K2d.out.same (hc1.block _ K2d.out.lt (by rw [List.mem_singleton]; omega)))
    have K31 := Lib.hid (K3d.out.same (hc1.block _ K3d.out.lt (by rw [List.mem_singleton]; omega)))
    have HP1 := Lib.hid (VR.mono _ _ _ (hc1.kept HUd.out (fun b hb h => by rw [List.mem_singleton] at h; exact (HFA.out b hb).2 h)) HPd.out)
    have HU1 : Hid (Under C1.heap.size Fa) := HUd.out.mono hc1.size
    have HA1 := Lib.hid (ArrDt.below HAd.out hb1 HWd.out)
    have HW1 : Hid (Under C1.heap.size FW) := HWd.out.mono hc1.size
    have HR1 : Hid (Rd C1 g (q4 + 1)) := HRd.out.rd.below hb1
    have hz1 := hc1.size
    clear hc1 hb1 K2d K3d HPd HUd HRd HAd HWd
    (try dsimp only)
    refine hK.out _ _ (HS.out _ hC1) (fun _ => trivial) ?_
    clear hK K
    (try simp only [Act.put, List.getElem_toArray, List.getElem_cons_zero, List.getElem_cons_succ, List.setIfInBounds_toArray, List.set_cons_zero, List.set_cons_succ])
    refine wpAnyB_ready (rs := [6]) (by kernel_rfl) (by simp) ?_
    refine AllReadyB.cons rfl (fun K hK => ?_) AllReadyB.nil
    go_simp
    go_at_call 87
    refine (spec_l2Draw 4 (by decide) xs (worldOK HTOK.out.ok) t (typeOkB_tyIn HTOK.out.ty) HTOK.out.dep 3 (by decide) (by decide) (depth_small HTOK.out.small _) C1 (q4 + 1) g _ FW _ FT HR1.out (by rw [pow44]; omega) HA1.out HW1.out (fun hg => by have := HFW.out _ hg; omega) HTB.out HTU.out (fun hg => by have := HFT.out _ hg; omega)).mono ?_
    rintro e C2 ⟨b, cs1, Fb, q7, rfl, hp1, hf1, hn1, -, -, hc2⟩
    obtain ⟨kvb, rfl, hbb⟩ := (VR_iff _ _ _).1 hp1
    obtain ⟨qA, qcap, rfl, -, -⟩ := hbb.form
    have hC2 : Chg [g, w.heap.size, w.heap.size + 1] w6 C2 := hC1.trans (hc2.mono (by simp))
    have K22 := Lib.hid (K21.out.same (hc2.block _ K21.out.lt (by rw [List.mem_singleton]; omega)))
    have K32 := Lib.hid (K31.out.same (hc2.block _ K31.out.lt (by rw [List.mem_singleton]; omega)))
    have HP2 := Lib.hid (VR.mono _ _ _ (hc2.kept HU1.out (fun b hb h => by rw [List.mem_singleton] at h; exact (HFA.out b hb).2 h)) HP1.out)
    have HU2 : Hid (Under C2.heap.size Fa) := HU1.out.mono hc2.size
    have HPB := Lib.hid hp1
    have HUB : Hid (Under C2.heap.size Fb) := fun x hx => (hf1 x hx).2
    have HFB : Hid (∀ x ∈ Fb, w3.heap.size ≤ x ∧ x ≠ g) := fun x hx => by have := (hf1 x hx).1; exact ⟨by omega, by omega⟩
    have HNB : Hid (nodes b ≤ 600000) := by rw [pow44] at hn1; unfold Hid; omega
    clear hp1 hf1 hn1 hc2 hbb HA1 HW1 HR1
    (try dsimp only)
    refine hK.out _ _ (HS.out _ hC2) (fun _ => trivial) ?_
    clear hK K
    (try simp only [Act.put, List.getElem_toArray, List.getElem_cons_zero, List.getElem_cons_succ, List.setIfInBounds_toArray, List.set_cons_zero, List.set_cons_succ])
    refine wpAnyB_ready (rs := [7]) (by kernel_rfl) (by simp) ?_
    refine AllReadyB.cons rfl (fun K hK => ?_) AllReadyB.nil
    have yy0 : C2.cell? ⟨w.heap.size, 0, none⟩ = some (.int .i64 0) := (K22.out.cell 0).trans (by simp)
    have ff0 := K22.out.frozen 0
    have yy1 : C2.cell? ⟨w.heap.size, 1, none⟩ = some (.int .i64 0) := (K22.out.cell 1).trans (by simp)
    have ff1 := K22.out.frozen 1
    have yy2 : C2.cell? ⟨w.heap.size, 2, none⟩ = some (.slice none 0 0) := (K22.out.cell 2).trans (by simp)
    have ff2 := K22.out.frozen 2
    have yylt := K22.out.lt
    have hC12 : Chg [g, w.heap.size, w.heap.size + 1] w6 (((C2.setCell ⟨w.heap.size, 0, none⟩ (.int .i64 a.c)).setCell ⟨w.heap.size, 1, none⟩ (.int .i64 a.n)).setCell ⟨w.heap.size, 2, none⟩ (.slice pA a.ks.length pcap)) := (((hC2.set (by simp)).set (by simp)).set (by simp))
    have KK12 : Hid (Blk (((C2.setCell ⟨w.heap.size, 0, none⟩ (.int .i64 a.c)).setCell ⟨w.heap.size, 1, none⟩ (.int .i64 a.n)).setCell ⟨w.heap.size, 2, none⟩ (.slice pA a.ks.length pcap)) (w.heap.size) 25 #[.int .i64 a.c, .int .i64 a.n, .slice pA a.ks.length pcap]) := (((K22.out.set_ 0 _).set_ 1 _).set_ 2 _)
    have K3212 : Hid (Blk (((C2.setCell ⟨w.heap.size, 0, none⟩ (.int .i64 a.c)).setCell ⟨w.heap.size, 1, none⟩ (.int .i64 a.n)).setCell ⟨w.heap.size, 2, none⟩ (.slice pA a.ks.length pcap)) (w.heap.size + 1) 25 #[.int .i64 0, .int .i64 0, .slice none 0 0]) := (((K32.out.same (Below.heap_setCell _ _ _ _ (by show w.heap.size + 1 ≠ w.heap.size; omega))).same (Below.heap_setCell _ _ _ _ (by show w.heap.size + 1 ≠ w.heap.size; omega))).same (Below.heap_setCell _ _ _ _ (by show w.heap.size + 1 ≠ w.heap.size; omega)))
    have hz12 : ((((C2.setCell ⟨w.heap.size, 0, none⟩ (.int .i64 a.c)).setCell ⟨w.heap.size, 1, none⟩ (.int .i64 a.n)).setCell ⟨w.heap.size, 2, none⟩ (.slice pA a.ks.length pcap))).heap.size = C2.heap.size := by simp [World.setCell]
    have hkA12 : Kept Fa C2 (((C2.setCell ⟨w.heap.size, 0, none⟩ (.int .i64 a.c)).setCell ⟨w.heap.size, 1, none⟩ (.int .i64 a.n)).setCell ⟨w.heap.size, 2, none⟩ (.slice pA a.ks.length pcap)) := fun x hx => by rw [Below.heap_setCell _ _ _ _ (by show x ≠ w.heap.size; have := HFA.out x hx; omega), Below.heap_setCell _ _ _ _ (by show x ≠ w.heap.size; have := HFA.out x hx; omega), Below.heap_setCell _ _ _ _ (by show x ≠ w.heap.size; have := HFA.out x hx; omega)]
    have hkB12 : Kept Fb C2 (((C2.setCell ⟨w.heap.size, 0, none⟩ (.int .i64 a.c)).setCell ⟨w.heap.size, 1, none⟩ (.int .i64 a.n)).setCell ⟨w.heap.size, 2, none⟩ (.slice pA a.ks.length pcap)) := fun x hx => by rw [Below.heap_setCell _ _ _ _ (by show x ≠ w.heap.size; have := HFB.out x hx; omega), Below.heap_setCell _ _ _ _ (by show x ≠ w.heap.size; have := HFB.out x hx; omega), Below.heap_setCell _ _ _ _ (by show x ≠ w.heap.size; have := HFB.out x hx; omega)]
    go_simp
    refine hK.out _ _ (HS.out _ hC12) (fun _ => trivial) ?_
    clear hK K
    (try simp only [Act.put, List.getElem_toArray, List.getElem_cons_zero, List.getElem_cons_succ, List.setIfInBounds_toArray, List.set_cons_zero, List.set_cons_succ])
    clear yy0 ff0 yy1 ff1 yy2 ff2 yylt
    obtain ⟨D2, hX⟩ : ∃ X, X = (((C2.setCell ⟨w.heap.size, 0, none⟩ (.int .i64 a.c)).setCell ⟨w.heap.size, 1, none⟩ (.int .i64 a.n)).setCell ⟨w.heap.size, 2, none⟩ (.slice pA a.ks.length pcap)) := ⟨_, rfl⟩
    rw [← hX] at hC12 KK12 K3212 hz12 hkA12 hkB12 ⊢
    clear hX
    refine wpAnyB_ready (rs := [8]) (by kernel_rfl) (by simp) ?_
    refine AllReadyB.cons rfl (fun K hK => ?_) AllReadyB.nil
    have yy0 : D2.cell? ⟨w.heap.size + 1, 0, none⟩ = some (.int .i64 0) := (K3212.out.cell 0).trans (by simp)
    have ff0 := K3212.out.frozen 0
    have yy1 : D2.cell? ⟨w.heap.size + 1, 1, none⟩ = some (.int .i64 0) := (K3212.out.cell 1).trans (by simp)
    have ff1 := K3212.out.frozen 1
    have yy2 : D2.cell? ⟨w.heap.size + 1, 2, none⟩ = some (.slice none 0 0) := (K3212.out.cell 2).trans (by simp)
    have ff2 := K3212.out.frozen 2
    have yylt := K3212.out.lt
    have hC13 : Chg [g, w.heap.size, w.heap.size + 1] w6 (((D2.setCell ⟨w.heap.size + 1, 0, none⟩ (.int .i64 b.c)).setCell ⟨w.heap.size + 1, 1, none⟩ (.int .i64 b.n)).setCell ⟨w.heap.size + 1, 2, none⟩ (.slice qA b.ks.length qcap)) := (((hC12.set (by simp)).set (by simp)).set (by simp))
    have KK13 : Hid (Blk (((D2.setCell ⟨w.heap.size + 1, 0, none⟩ (.int .i64 b.c)).setCell ⟨w.heap.size + 1, 1, none⟩ (.int .i64 b.n)).setCell ⟨w.heap.size + 1, 2, none⟩ (.slice qA b.ks.length qcap)) (w.heap.size + 1) 25 #[.int .i64 b.c, .int .i64 b.n, .slice qA b.ks.length qcap]) := (((K3212.out.set_ 0 _).set_ 1 _).set_ 2 _)
    have KK1213 : Hid (Blk (((D2.setCell ⟨w.heap.size + 1, 0, none⟩ (.int .i64 b.c)).setCell ⟨w.heap.size + 1, 1, none⟩ (.int .i64 b.n)).setCell ⟨w.heap.size + 1, 2, none⟩ (.slice qA b.ks.length qcap)) (w.heap.size) 25 #[.int .i64 a.c, .int .i64 a.n, .slice pA a.ks.length pcap]) := (((KK12.out.same (Below.heap_setCell _ _ _ _ (by show w.heap.size ≠ w.heap.size + 1; omega))).same (Below.heap_setCell _ _ _ _ (by show w.heap.size ≠ w.heap.size + 1; omega))).same (Below.heap_setCell _ _ _ _ (by show w.heap.size ≠ w.heap.size + 1; omega)))
    have hz13 : ((((D2.setCell ⟨w.heap.size + 1, 0, none⟩ (.int .i64 b.c)).setCell ⟨w.heap.size + 1, 1, none⟩ (.int .i64 b.n)).setCell ⟨w.heap.size + 1, 2, none⟩ (.slice qA b.ks.length qcap))).heap.size = D2.heap.size := by simp [World.setCell]
    have hkA13 : Kept Fa D2 (((D2.setCell ⟨w.heap.size + 1, 0, none⟩ (.int .i64 b.c)).setCell ⟨w.heap.size + 1, 1, none⟩ (.int .i64 b.n)).setCell ⟨w.heap.size + 1, 2, none⟩ (.slice qA b.ks.length qcap)) := fun x hx => by rw [Below.heap_setCell _ _ _ _ (by show x ≠ w.heap.size + 1; have := HFA.out x hx; omega), Below.heap_setCell _ _ _ _ (by show x ≠ w.heap.size + 1; have := HFA.out x hx; omega), Below.heap_setCell _ _ _ _ (by show x ≠ w.heap.size + 1; have := HFA.out x hx; omega)]
    have hkB13 : Kept Fb D2 (((D2.setCell ⟨w.heap.size + 1, 0, none⟩ (.int .i64 b.c)).setCell ⟨w.heap.size + 1, 1, none⟩ (.int .i64 b.n)).setCell ⟨w.heap.size + 1, 2, none⟩ (.slice qA b.ks.length qcap)) := fun x hx => by rw [Below.heap_setCell _ _ _ _ (by show x ≠ w.heap.size + 1; have := HFB.out x hx; omega), Below.heap_setCell _ _ _ _ (by show x ≠ w.heap.size + 1; have := HFB.out x hx; omega), Below.heap_setCell _ _ _ _ (by show x ≠ w.heap.size + 1; have := HFB.out x hx; omega)]
    go_simp
    refine hK.out _ _ (HS.out _ hC13) (fun _ => trivial) ?_
    clear hK K
    (try simp only [Act.put, List.getElem_toArray, List.getElem_cons_zero, List.getElem_cons_succ, List.setIfInBounds_toArray, List.set_cons_zero, List.set_cons_succ])
    clear yy0 ff0 yy1 ff1 yy2 ff2 yylt
    obtain ⟨D3, hX⟩ : ∃ X, X = (((D2.setCell ⟨w.heap.size + 1, 0, none⟩ (.int .i64 b.c)).setCell ⟨w.heap.size + 1, 1, none⟩ (.int .i64 b.n)).setCell ⟨w.heap.size + 1, 2, none⟩ (.slice qA b.ks.length qcap)) := ⟨_, rfl⟩
    rw [← hX] at hC13 KK13 KK1213 hz13 hkA13 hkB13 ⊢
    clear hX
    refine wpAnyB_end (by kernel_rfl) ?_
    clear hS0 hT0
    have HFin : Hid (DrewVV w (.returned (.tuple #[.agg #[.int .i64 a.c, .int .i64 a.n, .slice pA a.ks.length pcap], .agg #[.int .i64 b.c, .int .i64 b.n, .slice qA b.ks.length qcap]])) D3) := by
      have hz : D3.heap.size = C2.heap.size := by rw [hz13, hz12]
      refine ⟨a, b, [.int .i64 a.c, .int .i64 a.n, .slice pA a.ks.length pcap], [.int .i64 b.c, .int .i64 b.n, .slice qA b.ks.length qcap], Fa, Fb, rfl, HB6.out.trans (hC13.below (by intro x hx; simp at hx; omega) HB6.out.size), VR.mono _ _ _ hkA13 (VR.mono _ _ _ hkA12 HP2.out), ?_, VR.mono _ _ _ hkB13 (VR.mono _ _ _ hkB12 HPB.out), ?_, HNA.out, HNB.out⟩
      · intro b hb; rw [hz]; exact ⟨by have := (HFA.out b hb).1; omega, HU2.out b hb⟩
      · intro b hb; rw [hz]; exact ⟨by have := (HFB.out b hb).1; omega, HUB.out b hb⟩
    clear hkA12 hkA13 hkB12 hkB13 hC12 hC13 hC2
    go_wp2
    refine bodyPost_ret (results_cell2V rfl _ _ (w.heap.size) (w.heap.size + 1) 25 25 #[.int .i64 a.c, .int .i64 a.n, .slice pA a.ks.length pcap] #[.int .i64 b.c, .int .i64 b.n, .slice qA b.ks.length qcap] (0, 0) (0, 0) _ _ rfl KK1213.out Try.underlying25 rfl rfl rfl KK13.out Try.underlying25 rfl rfl) rfl ?_
    exact HFin.out
  | false =>
    go_wp2_with fail
    clear q0
    have HS : Hid (∀ C : World, Chg [g, w.heap.size, w.heap.size + 1] w6 C → (C.cell? ⟨kp, 0, none⟩ = some (.int .i64 a.c) ∧ C.cell? ⟨kp, 1, none⟩ = some (.int .i64 a.n) ∧ C.cell? ⟨kp, 2, none⟩ = some (.slice pA a.ks.length pcap))) := fun C hC => ⟨(hC.cell hk6 (by simp; omega)).trans ((KC6.out.cell 0).trans (by simp)), (hC.cell hk6 (by simp; omega)).trans ((KC6.out.cell 1).trans (by simp)), (hC.cell hk6 (by simp; omega)).trans ((KC6.out.cell 2).trans (by simp))⟩
    have hC0 : Chg [g, w.heap.size, w.heap.size + 1] w6 w6.drew := (Chg.refl _ _).drew
    have K2d : Hid (Blk w6.drew (w.heap.size) 25 #[.int .i64 0, .int .i64 0, .slice none 0 0]) := K26.out
    have K3d : Hid (Blk w6.drew (w.heap.size + 1) 25 #[.int .i64 0, .int .i64 0, .slice none 0 0]) := K36.out
    have HPd : Hid (VR w6.drew a [.int .i64 a.c, .int .i64 a.n, .slice pA a.ks.length pcap] Fa) := VR.drew HP6.out
    have HUd : Hid (Under w6.drew.heap.size Fa) := HUa6.out
    have HRd : Hid (RdB w6.drew g zs (q4 + 1)) := HRB6.out.keep (fun b hb => rfl)
    refine wp_region_B (S := fun w' => w'.cell? ⟨kp, 0, none⟩ = some (.int .i64 a.c) ∧ w'.cell? ⟨kp, 1, none⟩ = some (.int .i64 a.n) ∧ w'.cell? ⟨kp, 2, none⟩ = some (.slice pA a.ks.length pcap)) (T := fun _ => True) (d := 99) (by kernel_rfl) ?_
    obtain ⟨wd, hwd⟩ : ∃ X, X = w6.drew := ⟨_, rfl⟩
    have hzd : w6.heap.size ≤ wd.heap.size := by rw [hwd]; exact Nat.le_refl _
    rw [← hwd] at hC0 K2d K3d HPd HUd HRd ⊢
    clear hwd
    have hS0 := HS.out _ hC0
    have hT0 : True := trivial
    refine wpAnyB_take (i := 0) (v := ?_) rfl (by decide) (by kernel_rfl) (by kernel_rfl) (by kernel_rfl) (fun _ _ _ h => h) (Or.inl ⟨by rfl, ?hy0⟩) hS0 (fun _ => hT0) ?_
    case hy0 => (intro W hSw; (try dsimp only at hSw); (try obtain ⟨hSw0, hSw1, hSw2⟩ := hSw); go_simp; try with_reducible rfl)
    (try simp only [Act.put, List.getElem_toArray, List.getElem_cons_zero, List.getElem_cons_succ, List.setIfInBounds_toArray, List.set_cons_zero, List.set_cons_succ])
    refine wpAnyB_take (i := 1) (v := ?_) rfl (by decide) (by kernel_rfl) (by kernel_rfl) (by kernel_rfl) (fun _ _ _ h => h) (Or.inl ⟨by rfl, ?hy1⟩) hS0 (fun _ => hT0) ?_
    case hy1 => (intro W hSw; (try dsimp only at hSw); (try obtain ⟨hSw0, hSw1, hSw2⟩ := hSw); go_simp; try with_reducible rfl)
    (try simp only [Act.put, List.getElem_toArray, List.getElem_cons_zero, List.getElem_cons_succ, List.setIfInBounds_toArray, List.set_cons_zero, List.set_cons_succ])
    refine wpAnyB_take (i := 2) (v := ?_) rfl (by decide) (by kernel_rfl) (by kernel_rfl) (by kernel_rfl) (fun _ _ _ h => h) (Or.inl ⟨by rfl, ?hy2⟩) hS0 (fun _ => hT0) ?_
    case hy2 => (intro W hSw; (try dsimp only at hSw); (try obtain ⟨hSw0, hSw1, hSw2⟩ := hSw); go_simp; try with_reducible rfl)
    (try simp only [Act.put, List.getElem_toArray, List.getElem_cons_zero, List.getElem_cons_succ, List.setIfInBounds_toArray, List.set_cons_zero, List.set_cons_succ])
    refine wpAnyB_take (i := 3) (v := ?_) rfl (by decide) (by kernel_rfl) (by kernel_rfl) (by kernel_rfl) (fun _ _ _ h => h) (Or.inl ⟨by rfl, ?hy3⟩) hS0 (fun _ => hT0) ?_
    case hy3 => (intro W hSw; (try dsimp only at hSw); (try obtain ⟨hSw0, hSw1, hSw2⟩ := hSw); go_simp; try with_reducible rfl)
    (try simp only [Act.put, List.getElem_toArray, List.getElem_cons_zero, List.getElem_cons_succ, List.setIfInBounds_toArray, List.set_cons_zero, List.set_cons_succ])
    refine wpAnyB_ready (rs := [4]) (by kernel_rfl) (by simp) ?_
    refine AllReadyB.cons rfl (fun K hK => ?_) AllReadyB.nil
    go_simp
    go_at_call 50
    refine (spec_l2Mutate_all zs B (by omega) (B + 2) a wd (q4 + 1) g HRd.out (by omega) (by omega) (by have := HB3.out; omega) (by omega) _ Fa HPd.out HUd.out (fun b hb => (HFA.out b hb).2)).mono ?_
    rintro e C1 ⟨m, cs1, Fm, q7, rfl, hp1, hf1, hn1, hr1, hl1, hq1, hpo1, hc1⟩
    obtain ⟨kvm, rfl, hmm⟩ := (VR_iff _ _ _).1 hp1
    obtain ⟨mA, mcap, rfl, -, -⟩ := hmm.form
    have hC1 : Chg [g, w.heap.size, w.heap.size + 1] w6 C1 := hC0.trans (hc1.mono (by simp))
    have K21 := Lib.hid (K2d.out.same (hc1.block _ K2d.out.lt (by rw [List.mem_singleton]; omega)))
    have K31 := Lib.hid (K3d.out.same (hc1.block _ K3d.out.lt (by rw [List.mem_singleton]; omega)))
    have HP1 := Lib.hid (VR.mono _ _ _ (hc1.kept HUd.out (fun b hb h => by rw [List.mem_singleton] at h; exact (HFA.out b hb).2 h)) HPd.out)
    have HU1 : Hid (Under C1.heap.size Fa) := HUd.out.mono hc1.size
    have HPM := Lib.hid hp1
    have HUM : Hid (Under C1.heap.size Fm) := fun x hx => (hf1 x hx).1
    have HFM : Hid (∀ x ∈ Fm, w3.heap.size ≤ x ∧ x ≠ g) := fun x hx => ⟨by
      rcases (hf1 x hx).2.2 with h | h
      · exact (HFA.out x h).1
      · omega, (hf1 x hx).2.1⟩
    have HRM := Lib.hid hr1
    have hz1 := hc1.size
    clear hp1 hf1 hr1 hc1 hmm K2d K3d HPd HUd HRd
    (try dsimp only)
    refine hK.out _ _ (HS.out _ hC1) (fun _ => trivial) ?_
    clear hK K
    (try simp only [Act.put, List.getElem_toArray, List.getElem_cons_zero, List.getElem_cons_succ, List.setIfInBounds_toArray, List.set_cons_zero, List.set_cons_succ])
    refine wpAnyB_ready (rs := [5]) (by kernel_rfl) (by simp) ?_
    refine AllReadyB.cons rfl (fun K hK => ?_) AllReadyB.nil
    go_simp
    go_at_call 50
    refine (spec_l2Mutate_all zs B (by omega) (B + 2) m C1 q7 g HRM.out (by omega) (by omega) (by have := HB3.out; omega) (by omega) _ Fm HPM.out HUM.out (fun b hb => (HFM.out b hb).2)).mono ?_
    rintro e C2 ⟨b, cs2, Fb, q8, rfl, hp2, hf2, hn2, -, hl2, hq2, -, hc2⟩
    obtain ⟨kvb, rfl, hbb⟩ := (VR_iff _ _ _).1 hp2
    obtain ⟨qA, qcap, rfl, -, -⟩ := hbb.form
    have hC2 : Chg [g, w.heap.size, w.heap.size + 1] w6 C2 := hC1.trans (hc2.mono (by simp))
    have K22 := Lib.hid (K21.out.same (hc2.block _ K21.out.lt (by rw [List.mem_singleton]; omega)))
    have K32 := Lib.hid (K31.out.same (hc2.block _ K31.out.lt (by rw [List.mem_singleton]; omega)))
    have HP2 := Lib.hid (VR.mono _ _ _ (hc2.kept HU1.out (fun b hb h => by rw [List.mem_singleton] at h; exact (HFA.out b hb).2 h)) HP1.out)
    have HU2 : Hid (Under C2.heap.size Fa) := HU1.out.mono hc2.size
    have HPB := Lib.hid hp2
    have HUB : Hid (Under C2.heap.size Fb) := fun x hx => (hf2 x hx).1
    have HFB : Hid (∀ x ∈ Fb, w3.heap.size ≤ x ∧ x ≠ g) := fun x hx => ⟨by
      rcases (hf2 x hx).2.2 with h | h
      · exact (HFM.out x h).1
      · omega, (hf2 x hx).2.1⟩
    have HNB : Hid (nodes b ≤ 600000) := by unfold Hid; omega
    clear hp2 hf2 hc2 hbb
    (try dsimp only)
    refine hK.out _ _ (HS.out _ hC2) (fun _ => trivial) ?_
    clear hK K
    (try simp only [Act.put, List.getElem_toArray, List.getElem_cons_zero, List.getElem_cons_succ, List.setIfInBounds_toArray, List.set_cons_zero, List.set_cons_succ])
    refine wpAnyB_ready (rs := [6]) (by kernel_rfl) (by simp) ?_
    refine AllReadyB.cons rfl (fun K hK => ?_) AllReadyB.nil
    have yy0 : C2.cell? ⟨w.heap.size, 0, none⟩ = some (.int .i64 0) := (K22.out.cell 0).trans (by simp)
    have ff0 := K22.out.frozen 0
    have yy1 : C2.cell? ⟨w.heap.size, 1, none⟩ = some (.int .i64 0) := (K22.out.cell 1).trans (by simp)
    have ff1 := K22.out.frozen 1
    have yy2 : C2.cell? ⟨w.heap.size, 2, none⟩ = some (.slice none 0 0) := (K22.out.cell 2).trans (by simp)
    have ff2 := K22.out.frozen 2
    have yylt := K22.out.lt
    have hC12 : Chg [g, w.heap.size, w.heap.size + 1] w6 (((C2.setCell ⟨w.heap.size, 0, none⟩ (.int .i64 a.c)).setCell ⟨w.heap.size, 1, none⟩ (.int .i64 a.n)).setCell ⟨w.heap.size, 2, none⟩ (.slice pA a.ks.length pcap)) := (((hC2.set (by simp)).set (by simp)).set (by simp))
    have KK12 : Hid (Blk (((C2.setCell ⟨w.heap.size, 0, none⟩ (.int .i64 a.c)).setCell ⟨w.heap.size, 1, none⟩ (.int .i64 a.n)).setCell ⟨w.heap.size, 2, none⟩ (.slice pA a.ks.length pcap)) (w.heap.size) 25 #[.int .i64 a.c, .int .i64 a.n, .slice pA a.ks.length pcap]) := (((K22.out.set_ 0 _).set_ 1 _).set_ 2 _)
    have K3212 : Hid (Blk (((C2.setCell ⟨w.heap.size, 0, none⟩ (.int .i64 a.c)).setCell ⟨w.heap.size, 1, none⟩ (.int .i64 a.n)).setCell ⟨w.heap.size, 2, none⟩ (.slice pA a.ks.length pcap)) (w.heap.size + 1) 25 #[.int .i64 0, .int .i64 0, .slice none 0 0]) := (((K32.out.same (Below.heap_setCell _ _ _ _ (by show w.heap.size + 1 ≠ w.heap.size; omega))).same (Below.heap_setCell _ _ _ _ (by show w.heap.size + 1 ≠ w.heap.size; omega))).same (Below.heap_setCell _ _ _ _ (by show w.heap.size + 1 ≠ w.heap.size; omega)))
    have hz12 : ((((C2.setCell ⟨w.heap.size, 0, none⟩ (.int .i64 a.c)).setCell ⟨w.heap.size, 1, none⟩ (.int .i64 a.n)).setCell ⟨w.heap.size, 2, none⟩ (.slice pA a.ks.length pcap))).heap.size = C2.heap.size := by simp [World.setCell]
    have hkA12 : Kept Fa C2 (((C2.setCell ⟨w.heap.size, 0, none⟩ (.int .i64 a.c)).setCell ⟨w.heap.size, 1, none⟩ (.int .i64 a.n)).setCell ⟨w.heap.size, 2, none⟩ (.slice pA a.ks.length pcap)) := fun x hx => by rw [Below.heap_setCell _ _ _ _ (by show x ≠ w.heap.size; have := HFA.out x hx; omega), Below.heap_setCell _ _ _ _ (by show x ≠ w.heap.size; have := HFA.out x hx; omega), Below.heap_setCell _ _ _ _ (by show x ≠ w.heap.size; have := HFA.out x hx; omega)]
    have hkB12 : Kept Fb C2 (((C2.setCell ⟨w.heap.size, 0, none⟩ (.int .i64 a.c)).setCell ⟨w.heap.size, 1, none⟩ (.int .i64 a.n)).setCell ⟨w.heap.size, 2, none⟩ (.slice pA a.ks.length pcap)) := fun x hx => by rw [Below.heap_setCell _ _ _ _ (by show x ≠ w.heap.size; have := HFB.out x hx; omega), Below.heap_setCell _ _ _ _ (by show x ≠ w.heap.size; have := HFB.out x hx; omega), Below.heap_setCell _ _ _ _ (by show x ≠ w.heap.size; have := HFB.out x hx; omega)]
    go_simp
    refine hK.out _ _ (HS.out _ hC12) (fun _ => trivial) ?_
    clear hK K
    (try simp only [Act.put, List.getElem_toArray, List.getElem_cons_zero, List.getElem_cons_succ, List.setIfInBounds_toArray, List.set_cons_zero, List.set_cons_succ])
    clear yy0 ff0 yy1 ff1 yy2 ff2 yylt
    obtain ⟨D2, hX⟩ : ∃ X, X = (((C2.setCell ⟨w.heap.size, 0, none⟩ (.int .i64 a.c)).setCell ⟨w.heap.size, 1, none⟩ (.int .i64 a.n)).setCell ⟨w.heap.size, 2, none⟩ (.slice pA a.ks.length pcap)) := ⟨_, rfl⟩
    rw [← hX] at hC12 KK12 K3212 hz12 hkA12 hkB12 ⊢
    clear hX
    refine wpAnyB_ready (rs := [7]) (by kernel_rfl) (by simp) ?_
    refine AllReadyB.cons rfl (fun K hK => ?_) AllReadyB.nil
    have yy0 : D2.cell? ⟨w.heap.size + 1, 0, none⟩ = some (.int .i64 0) := (K3212.out.cell 0).trans (by simp)
    have ff0 := K3212.out.frozen 0
    have yy1 : D2.cell? ⟨w.heap.size + 1, 1, none⟩ = some (.int .i64 0) := (K3212.out.cell 1).trans (by simp)
    have ff1 := K3212.out.frozen 1
    have yy2 : D2.cell? ⟨w.heap.size + 1, 2, none⟩ = some (.slice none 0 0) := (K3212.out.cell 2).trans (by simp)
    have ff2 := K3212.out.frozen 2
    have yylt := K3212.out.lt
    have hC13 : Chg [g, w.heap.size, w.heap.size + 1] w6 (((D2.setCell ⟨w.heap.size + 1, 0, none⟩ (.int .i64 b.c)).setCell ⟨w.heap.size + 1, 1, none⟩ (.int .i64 b.n)).setCell ⟨w.heap.size + 1, 2, none⟩ (.slice qA b.ks.length qcap)) := (((hC12.set (by simp)).set (by simp)).set (by simp))
    have KK13 : Hid (Blk (((D2.setCell ⟨w.heap.size + 1, 0, none⟩ (.int .i64 b.c)).setCell ⟨w.heap.size + 1, 1, none⟩ (.int .i64 b.n)).setCell ⟨w.heap.size + 1, 2, none⟩ (.slice qA b.ks.length qcap)) (w.heap.size + 1) 25 #[.int .i64 b.c, .int .i64 b.n, .slice qA b.ks.length qcap]) := (((K3212.out.set_ 0 _).set_ 1 _).set_ 2 _)
    have KK1213 : Hid (Blk (((D2.setCell ⟨w.heap.size + 1, 0, none⟩ (.int .i64 b.c)).setCell ⟨w.heap.size + 1, 1, none⟩ (.int .i64 b.n)).setCell ⟨w.heap.size + 1, 2, none⟩ (.slice qA b.ks.length qcap)) (w.heap.size) 25 #[.int .i64 a.c, .int .i64 a.n, .slice pA a.ks.length pcap]) := (((KK12.out.same (Below.heap_setCell _ _ _ _ (by show w.heap.size ≠ w.heap.size + 1; omega))).same (Below.heap_setCell _ _ _ _ (by show w.heap.size ≠ w.heap.size + 1; omega))).same (Below.heap_setCell _ _ _ _ (by show w.heap.size ≠ w.heap.size + 1; omega)))
    have hz13 : ((((D2.setCell ⟨w.heap.size + 1, 0, none⟩ (.int .i64 b.c)).setCell ⟨w.heap.size + 1, 1, none⟩ (.int .i64 b.n)).setCell ⟨w.heap.size + 1, 2, none⟩ (.slice qA b.ks.length qcap))).heap.size = D2.heap.size := by simp [World.setCell]
    have hkA13 : Kept Fa D2 (((D2.setCell ⟨w.heap.size + 1, 0, none⟩ (.int .i64 b.c)).setCell ⟨w.heap.size + 1, 1, none⟩ (.int .i64 b.n)).setCell ⟨w.heap.size + 1, 2, none⟩ (.slice qA b.ks.length qcap)) := fun x hx => by rw [Below.heap_setCell _ _ _ _ (by show x ≠ w.heap.size + 1; have := HFA.out x hx; omega), Below.heap_setCell _ _ _ _ (by show x ≠ w.heap.size + 1; have := HFA.out x hx; omega), Below.heap_setCell _ _ _ _ (by show x ≠ w.heap.size + 1; have := HFA.out x hx; omega)]
    have hkB13 : Kept Fb D2 (((D2.setCell ⟨w.heap.size + 1, 0, none⟩ (.int .i64 b.c)).setCell ⟨w.heap.size + 1, 1, none⟩ (.int .i64 b.n)).setCell ⟨w.heap.size + 1, 2, none⟩ (.slice qA b.ks.length qcap)) := fun x hx => by rw [Below.heap_setCell _ _ _ _ (by show x ≠ w.heap.size + 1; have := HFB.out x hx; omega), Below.heap_setCell _ _ _ _ (by show x ≠ w.heap.size + 1; have := HFB.out x hx; omega), Below.heap_setCell _ _ _ _ (by show x ≠ w.heap.size + 1; have := HFB.out x hx; omega)]
    go_simp
    refine hK.out _ _ (HS.out _ hC13) (fun _ => trivial) ?_
    clear hK K
    (try simp only [Act.put, List.getElem_toArray, List.getElem_cons_zero, List.getElem_cons_succ, List.setIfInBounds_toArray, List.set_cons_zero, List.set_cons_succ])
    clear yy0 ff0 yy1 ff1 yy2 ff2 yylt
    obtain ⟨D3, hX⟩ : ∃ X, X = (((D2.setCell ⟨w.heap.size + 1, 0, none⟩ (.int .i64 b.c)).setCell ⟨w.heap.size + 1, 1, none⟩ (.int .i64 b.n)).setCell ⟨w.heap.size + 1, 2, none⟩ (.slice qA b.ks.length qcap)) := ⟨_, rfl⟩
    rw [← hX] at hC13 KK13 KK1213 hz13 hkA13 hkB13 ⊢
    clear hX
    refine wpAnyB_end (by kernel_rfl) ?_
    clear hS0 hT0
    have HFin : Hid (DrewVV w (.returned (.tuple #[.agg #[.int .i64 a.c, .int .i64 a.n, .slice pA a.ks.length pcap], .agg #[.int .i64 b.c, .int .i64 b.n, .slice qA b.ks.length qcap]])) D3) := by
      have hz : D3.heap.size = C2.heap.size := by rw [hz13, hz12]
      refine ⟨a, b, [.int .i64 a.c, .int .i64 a.n, .slice pA a.ks.length pcap], [.int .i64 b.c, .int .i64 b.n, .slice qA b.ks.length qcap], Fa, Fb, rfl, HB6.out.trans (hC13.below (by intro x hx; simp at hx; omega) HB6.out.size), VR.mono _ _ _ hkA13 (VR.mono _ _ _ hkA12 HP2.out), ?_, VR.mono _ _ _ hkB13 (VR.mono _ _ _ hkB12 HPB.out), ?_, HNA.out, HNB.out⟩
      · intro b hb; rw [hz]; exact ⟨by have := (HFA.out b hb).1; omega, HU2.out b hb⟩
      · intro b hb; rw [hz]; exact ⟨by have := (HFB.out b hb).1; omega, HUB.out b hb⟩
    clear hkA12 hkA13 hkB12 hkB13 hC12 hC13 hC2
    go_wp2
    refine bodyPost_ret (results_cell2V rfl _ _ (w.heap.size) (w.heap.size + 1) 25 25 #[.int .i64 a.c, .int .i64 a.n, .slice pA a.ks.length pcap] #[.int .i64 b.c, .int .i64 b.n, .slice qA b.ks.length qcap] (0, 0) (0, 0) _ _ rfl KK1213.out Try.underlying25 rfl rfl rfl KK13.out Try.underlying25 rfl rfl) rfl ?_
    exact HFin.out
end Go.Proofs.Ytgckkiencmickaa

namespace Go.Proofs.Ytgckkiencmickaa
open Go.RowKit

set_option maxRecDepth 100000 in
set_option maxHeartbeats 1600000 in
theorem spec_DrawCompareValues (bs : List Int) (w : World) (v : Value) (F : List Nat) (hx : Arr w (ByR w) bs v F) (hf : Under w.heap.size F) :
    Calls Try.prog 13 #[v] w (DrewVV w) := by
  have hB1 : Below w.heap.size w ((w.alloc (.cells #[.int .i64 0, .int .i64 0, .slice none 0 0] 25)).alloc (.cells #[.int .i64 0, .int .i64 0, .slice none 0 0] 25)) := ((Below.refl _ _).alloc (Nat.le_refl _) _).alloc (by simp) _
  have K1 : Hid (Blk ((w.alloc (.cells #[.int .i64 0, .int .i64 0, .slice none 0 0] 25)).alloc (.cells #[.int .i64 0, .int .i64 0, .slice none 0 0] 25)) w.heap.size 25 #[.int .i64 0, .int .i64 0, .slice none 0 0]) := (Blk.new w _ _).same (Below.heap_alloc _ _ _ (by simp))
  have J1 : Hid (Blk ((w.alloc (.cells #[.int .i64 0, .int .i64 0, .slice none 0 0] 25)).alloc (.cells #[.int .i64 0, .int .i64 0, .slice none 0 0] 25)) (w.heap.size + 1) 25 #[.int .i64 0, .int .i64 0, .slice none 0 0]) := blk_second w _ 25 _
  have HX : Hid (Arr ((w.alloc (.cells #[.int .i64 0, .int .i64 0, .slice none 0 0] 25)).alloc (.cells #[.int .i64 0, .int .i64 0, .slice none 0 0] 25)) (ByR ((w.alloc (.cells #[.int .i64 0, .int .i64 0, .slice none 0 0] 25)).alloc (.cells #[.int .i64 0, .int .i64 0, .slice none 0 0] 25))) bs v F) := ArrBy.mono hx (.of_below hB1 hf)
  have HU : Hid (Under (((w.alloc (.cells #[.int .i64 0, .int .i64 0, .slice none 0 0] 25)).alloc (.cells #[.int .i64 0, .int .i64 0, .slice none 0 0] 25))).heap.size F) := hf.mono hB1.size
  have hs1 : (((w.alloc (.cells #[.int .i64 0, .int .i64 0, .slice none 0 0] 25)).alloc (.cells #[.int .i64 0, .int .i64 0, .slice none 0 0] 25))).heap.size = w.heap.size + 2 := by simp
  clear hx hf
  go_enter Try.func13, Try.ntmps13
  go_wp2_with fail
  obtain ⟨w1, hw1⟩ : ∃ X, X = ((w.alloc (.cells #[.int .i64 0, .int .i64 0, .slice none 0 0] 25)).alloc (.cells #[.int .i64 0, .int .i64 0, .slice none 0 0] 25)) := ⟨_, rfl⟩
  rw [← hw1] at hB1 K1 J1 HX HU hs1 ⊢
  clear hw1
  refine (spec_DrawValueSame bs w1 v F HX.out HU.out).mono ?_
  rintro e w3 ⟨a, b, csa, csb, Fa, Fb, rfl, hb3, hp3, hf3, hq3, hg3, hn3, hm3⟩
  obtain ⟨kva, rfl, haa⟩ := (VR_iff _ _ _).1 hp3
  obtain ⟨pA, pcap, rfl, -, -⟩ := haa.form
  obtain ⟨kvb, rfl, hbb⟩ := (VR_iff _ _ _).1 hq3
  obtain ⟨qA, qcap, rfl, -, -⟩ := hbb.form
  have K3 : Hid (Blk w3 w.heap.size 25 #[.int .i64 0, .int .i64 0, .slice none 0 0]) := K1.out.same (hb3.block _ (by omega))
  have J3 : Hid (Blk w3 (w.heap.size + 1) 25 #[.int .i64 0, .int .i64 0, .slice none 0 0]) := J1.out.same (hb3.block _ (by omega))
  have HP3 := Lib.hid hp3
  have HQ3 := Lib.hid hq3
  have hz3 := hb3.size
  have HF3 : Hid (∀ x ∈ Fa, w.heap.size + 1 < x ∧ x < w3.heap.size) := fun x hx => ⟨by have := (hf3 x hx).1; omega, (hf3 x hx).2⟩
  have HG3 : Hid (∀ x ∈ Fb, w.heap.size + 1 < x ∧ x < w3.heap.size) := fun x hx => ⟨by have := (hg3 x hx).1; omega, (hg3 x hx).2⟩
  have HB3 : Hid (Below w.heap.size w w3) := hB1.trans (hb3.mono hB1.size)
  have HN := Lib.hid (And.intro hn3 hm3)
  have r0 : w3.cell? ⟨w.heap.size, 0, none⟩ = some (.int .i64 0) := (K3.out.cell 0).trans (by simp)
  have rf0 := K3.out.frozen 0
  have r1 : w3.cell? ⟨w.heap.size, 1, none⟩ = some (.int .i64 0) := (K3.out.cell 1).trans (by simp)
  have rf1 := K3.out.frozen 1
  have r2 : w3.cell? ⟨w.heap.size, 2, none⟩ = some (.slice none 0 0) := (K3.out.cell 2).trans (by simp)
  have rf2 := K3.out.frozen 2
  have rlt := K3.out.lt
  have s0 : w3.cell? ⟨w.heap.size + 1, 0, none⟩ = some (.int .i64 0) := (J3.out.cell 0).trans (by simp)
  have sf0 := J3.out.frozen 0
  have s1 : w3.cell? ⟨w.heap.size + 1, 1, none⟩ = some (.int .i64 0) := (J3.out.cell 1).trans (by simp)
  have sf1 := J3.out.frozen 1
  have s2 : w3.cell? ⟨w.heap.size + 1, 2, none⟩ = some (.slice none 0 0) := (J3.out.cell 2).trans (by simp)
  have sf2 := J3.out.frozen 2
  have slt := J3.out.lt
  clear hb3 hp3 hf3 haa hbb hq3 hg3 hn3 hm3
  go_wp2
  clear r0 rf0 r1 rf1 r2 rf2 rlt s0 sf0 s1 sf1 s2 sf2 slt
  have K7 : Blk ((((((w3.setCell ⟨w.heap.size, 0, none⟩ (.int .i64 a.c)).setCell ⟨w.heap.size, 1, none⟩ (.int .i64 a.n)).setCell ⟨w.heap.size, 2, none⟩ (.slice pA a.ks.length pcap)).setCell ⟨w.heap.size + 1, 0, none⟩ (.int .i64 b.c)).setCell ⟨w.heap.size + 1, 1, none⟩ (.int .i64 b.n)).setCell ⟨w.heap.size + 1, 2, none⟩ (.slice qA b.ks.length qcap)) w.heap.size 25 #[.int .i64 a.c, .int .i64 a.n, .slice pA a.ks.length pcap] := (((K3.out.three _ _ _).same (Below.heap_setCell _ _ _ _ (by show w.heap.size ≠ w.heap.size + 1; omega))).same (Below.heap_setCell _ _ _ _ (by show w.heap.size ≠ w.heap.size + 1; omega))).same (Below.heap_setCell _ _ _ _ (by show w.heap.size ≠ w.heap.size + 1; omega))
  have J6 : Blk (((w3.setCell ⟨w.heap.size, 0, none⟩ (.int .i64 a.c)).setCell ⟨w.heap.size, 1, none⟩ (.int .i64 a.n)).setCell ⟨w.heap.size, 2, none⟩ (.slice pA a.ks.length pcap)) (w.heap.size + 1) 25 #[.int .i64 0, .int .i64 0, .slice none 0 0] := (((J3.out).same (Below.heap_setCell _ _ _ _ (by show w.heap.size + 1 ≠ w.heap.size; omega))).same (Below.heap_setCell _ _ _ _ (by show w.heap.size + 1 ≠ w.heap.size; omega))).same (Below.heap_setCell _ _ _ _ (by show w.heap.size + 1 ≠ w.heap.size; omega))
  have J7 : Blk ((((((w3.setCell ⟨w.heap.size, 0, none⟩ (.int .i64 a.c)).setCell ⟨w.heap.size, 1, none⟩ (.int .i64 a.n)).setCell ⟨w.heap.size, 2, none⟩ (.slice pA a.ks.length pcap)).setCell ⟨w.heap.size + 1, 0, none⟩ (.int .i64 b.c)).setCell ⟨w.heap.size + 1, 1, none⟩ (.int .i64 b.n)).setCell ⟨w.heap.size + 1, 2, none⟩ (.slice qA b.ks.length qcap)) (w.heap.size + 1) 25 #[.int .i64 b.c, .int .i64 b.n, .slice qA b.ks.length qcap] := J6.three _ _ _
  refine bodyPost_ret (results_cell2V rfl _ _ w.heap.size (w.heap.size + 1) 25 25 #[.int .i64 a.c, .int .i64 a.n, .slice pA a.ks.length pcap] #[.int .i64 b.c, .int .i64 b.n, .slice qA b.ks.length qcap] (0, 0) (0, 0) _ _ rfl K7 Try.underlying25 rfl rfl rfl J7 Try.underlying25 rfl rfl) rfl ?_
  have hkA : Kept Fa w3 ((((((w3.setCell ⟨w.heap.size, 0, none⟩ (.int .i64 a.c)).setCell ⟨w.heap.size, 1, none⟩ (.int .i64 a.n)).setCell ⟨w.heap.size, 2, none⟩ (.slice pA a.ks.length pcap)).setCell ⟨w.heap.size + 1, 0, none⟩ (.int .i64 b.c)).setCell ⟨w.heap.size + 1, 1, none⟩ (.int .i64 b.n)).setCell ⟨w.heap.size + 1, 2, none⟩ (.slice qA b.ks.length qcap)) := fun x hx => (kept_three (F := Fa) (fun b hb => by have := (HF3.out b hb).1; omega) _ _ _ x hx).trans (kept_three (F := Fa) (fun b hb => by have := (HF3.out b hb).1; omega) _ _ _ x hx)
  have hkB : Kept Fb w3 ((((((w3.setCell ⟨w.heap.size, 0, none⟩ (.int .i64 a.c)).setCell ⟨w.heap.size, 1, none⟩ (.int .i64 a.n)).setCell ⟨w.heap.size, 2, none⟩ (.slice pA a.ks.length pcap)).setCell ⟨w.heap.size + 1, 0, none⟩ (.int .i64 b.c)).setCell ⟨w.heap.size + 1, 1, none⟩ (.int .i64 b.n)).setCell ⟨w.heap.size + 1, 2, none⟩ (.slice qA b.ks.length qcap)) := fun x hx => (kept_three (F := Fb) (fun b hb => by have := (HG3.out b hb).1; omega) _ _ _ x hx).trans (kept_three (F := Fb) (fun b hb => by have := (HG3.out b hb).1; omega) _ _ _ x hx)
  have hsz : (((((((w3.setCell ⟨w.heap.size, 0, none⟩ (.int .i64 a.c)).setCell ⟨w.heap.size, 1, none⟩ (.int .i64 a.n)).setCell ⟨w.heap.size, 2, none⟩ (.slice pA a.ks.length pcap)).setCell ⟨w.heap.size + 1, 0, none⟩ (.int .i64 b.c)).setCell ⟨w.heap.size + 1, 1, none⟩ (.int .i64 b.n)).setCell ⟨w.heap.size + 1, 2, none⟩ (.slice qA b.ks.length qcap))).heap.size = w3.heap.size := by rw [size_three, size_three]
  refine ⟨a, b, [.int .i64 a.c, .int .i64 a.n, .slice pA a.ks.length pcap], [.int .i64 b.c, .int .i64 b.n, .slice qA b.ks.length qcap], Fa, Fb, rfl, below_three (below_three HB3.out (Nat.le_refl _) _ _ _) (Nat.le_succ _) _ _ _, VR.mono _ _ _ hkA HP3.out, fun x hx => ⟨by have := (HF3.out x hx).1; omega, by rw [hsz]; exact (HF3.out x hx).2⟩, VR.mono _ _ _ hkB HQ3.out, fun x hx => ⟨by have := (HG3.out x hx).1; omega, by rw [hsz]; exact (HG3.out x hx).2⟩, HN.out.1, HN.out.2⟩
end Go.Proofs.Ytgckkiencmickaa

namespace Go.Proofs.Ytgckkiencmickaa
open Go.RowKit

def lessI (a b : Int) : Int := if a < b then -1 else if b < a then 1 else 0
theorem lessI_lt {a b : Int} (h : a < b) : lessI a b = -1 := if_pos h
theorem lessI_gt {a b : Int} (h : b < a) : lessI a b = 1 := by unfold lessI; rw [if_neg (by omega), if_pos h]
theorem lessI_eq (a : Int) : lessI a a = 0 := by unfold lessI; simp
mutual
def V.cmp : V → V → Int
  | ⟨c, n, ks⟩, ⟨c', n', ks'⟩ => if c = c' then (if n = n' then V.cmps ks ks' else lessI n n') else lessI c c'
def V.cmps : List V → List V → Int
  | [], [] => 0
  | [], _ :: _ => -1
  | _ :: _, [] => 1
  | x :: xs, y :: ys => if V.cmp x y = 0 then V.cmps xs ys else V.cmp x y
end
theorem lessI_range (a b : Int) : -1 ≤ lessI a b ∧ lessI a b ≤ 1 := by
  unfold lessI
  split
  · omega
  · split <;> omega
theorem V.cmps_range_of (ks : List V) (h : ∀ k ∈ ks, ∀ b, -1 ≤ V.cmp k b ∧ V.cmp k b ≤ 1) : ∀ ks', -1 ≤ V.cmps ks ks' ∧ V.cmps ks ks' ≤ 1 := by
  induction ks with
  | nil => intro ks'; cases ks' <;> simp [V.cmps]
  | cons x xs ih =>
    intro ks'
    cases ks' with
    | nil => simp [V.cmps]
    | cons y ys =>
      simp only [V.cmps]
      split
      · exact ih (fun k hk => h k (by simp [hk])) ys
      · exact h x (by simp) y
theorem V.cmp_range : ∀ a b : V, -1 ≤ V.cmp a b ∧ V.cmp a b ≤ 1 := V.ind fun c n ks ih b => by
  obtain ⟨c', n', ks'⟩ := b
  simp only [V.cmp]
  split
  · split
    · exact V.cmps_range_of ks ih ks'
    · exact lessI_range _ _
  · exact lessI_range _ _
theorem V.cmps_drop (ks ks' : List V) (k : Nat) (h : k < ks.length) (h' : k < ks'.length) : V.cmps (ks.drop k) (ks'.drop k) = if V.cmp ks[k] ks'[k] = 0 then V.cmps (ks.drop (k + 1)) (ks'.drop (k + 1)) else V.cmp ks[k] ks'[k] := by
  rw [List.drop_eq_getElem_cons h, List.drop_eq_getElem_cons h', V.cmps]
theorem V.cmps_end (ks ks' : List V) (k : Nat) (h : k ≤ ks.length) (h' : k ≤ ks'.length) (he : k = ks.length ∨ k = ks'.length) : V.cmps (ks.drop k) (ks'.drop k) = lessI ks.length ks'.length := by
  rcases he with rfl | rfl
  · rw [List.drop_length]
    rcases Nat.lt_or_ge ks.length ks'.length with hl | hl
    · rw [List.drop_eq_getElem_cons hl, V.cmps, lessI_lt (by omega)]
    · have : ks'.length = ks.length := by omega
      rw [List.drop_of_length_le hl, V.cmps, this, lessI_eq]
  · rw [List.drop_length]
    rcases Nat.lt_or_ge ks'.length ks.length with hl | hl
    · rw [List.drop_eq_getElem_cons hl, V.cmps, lessI_gt (by omega)]
    · have : ks.length = ks'.length := by omega
      rw [List.drop_of_length_le hl, V.cmps, this, lessI_eq]

set_option maxHeartbeats 400000 in
theorem spec_l2Less (a b : Int) (w : World) : Calls Try.prog 43 #[.int .i64 a, .int .i64 b] w fun e w' => e = .returned (.int .i64 (lessI a b)) ∧ w = w' := by
  by_cases h : a < b
  · have hf := Lib.hid (lessI_lt h)
    go_enter Try.func43, Try.ntmps43
    go_wp2
    go_ret
    exact ⟨ret_int hf.out.symm, rfl⟩
  · by_cases h2 : b < a
    · have hf := Lib.hid (lessI_gt h2)
      go_enter Try.func43, Try.ntmps43
      go_wp2
      go_ret
      exact ⟨ret_int hf.out.symm, rfl⟩
    · obtain rfl : a = b := by omega
      have hf := Lib.hid (lessI_eq a)
      clear h h2
      have h : ¬ a < a := by omega
      go_enter Try.func43, Try.ntmps43
      go_wp2
      go_ret
      exact ⟨ret_int hf.out.symm, rfl⟩

set_option maxHeartbeats 400000 in
theorem cmp_isNaN (a : Int) (w : World) : Calls Try.prog 89 #[.int .i64 a] w fun e w' => e = .returned (.bool false) ∧ w = w' := by
  have h : (a != a) = false := by simp
  go_enter Try.func89, Try.ntmps89
  go_wp2
  go_ret
  exact ⟨rfl, rfl⟩

set_option maxHeartbeats 400000 in
theorem cmp_Compare (a b : Int) (w : World) : Calls Try.prog 41 #[.int .i64 a, .int .i64 b] w fun e w' => e = .returned (.int .i64 (lessI a b)) ∧ w = w' := by
  by_cases h : a < b
  · have hf := Lib.hid (lessI_lt h)
    go_enter Try.func41, Try.ntmps41
    go_wp2_with (go_at_call 89; refine (cmp_isNaN _ _).mono ?_; rintro e w' ⟨rfl, rfl⟩)
    go_ret
    exact ⟨ret_int hf.out.symm, rfl⟩
  · by_cases h2 : b < a
    · have hf := Lib.hid (lessI_gt h2)
      go_enter Try.func41, Try.ntmps41
      go_wp2_with (go_at_call 89; refine (cmp_isNaN _ _).mono ?_; rintro e w' ⟨rfl, rfl⟩)
      go_ret
      exact ⟨ret_int hf.out.symm, rfl⟩
    · obtain rfl : a = b := by omega
      have hf := Lib.hid (lessI_eq a)
      clear h h2
      have h : ¬ a < a := by omega
      go_enter Try.func41, Try.ntmps41
      go_wp2_with (go_at_call 89; refine (cmp_isNaN _ _).mono ?_; rintro e w' ⟨rfl, rfl⟩)
      go_ret
      exact ⟨ret_int hf.out.symm, rfl⟩

def CmpSpec (a : V) : Prop := ∀ (b : V) (w : World) (cs ds : List Value) (F G : List Nat), VR w a cs F → VR w b ds G → Under w.heap.size F → Under w.heap.size G →
  Calls Try.prog 15 #[.agg cs.toArray, .agg ds.toArray] w fun e w' => e = .returned (.int .i64 (V.cmp a b)) ∧ Below w.heap.size w w'

set_option maxRecDepth 100000 in
set_option maxHeartbeats 1600000 in
theorem spec_CompareValues_all : ∀ a, CmpSpec a := V.ind fun c n ks ih b w cs ds F G hv hv' hF hG => by
  obtain ⟨c', n', ks'⟩ := b
  obtain ⟨kv, rfl, hk⟩ := (VR_iff _ _ _).1 hv
  obtain ⟨kv', rfl, hk'⟩ := (VR_iff _ _ _).1 hv'
  have IH := Lib.hid ih
  clear ih hv hv'
  have HX := Lib.hid hk
  have HY := Lib.hid hk'
  obtain ⟨A, cap, rfl, hc1, hc2⟩ := hk.form
  obtain ⟨A', cap', rfl, hc3, hc4⟩ := hk'.form
  clear hk hk'
  have HF := Lib.hid hF
  have HG := Lib.hid hG
  clear hF hG
  by_cases e0 : c = c'
  · subst e0
    have t0 : (c != c) = false := by simp
    by_cases e1 : n = n'
    · subst e1
      have t1 : (n != n) = false := by simp
      have hf : Hid (V.cmp ⟨c, n, ks⟩ ⟨c, n, ks'⟩ = V.cmps ks ks') := by simp [Hid, V.cmp]
      go_enter Try.func15, Try.ntmps15
      go_wp2
      obtain ⟨W2, hW2⟩ : ∃ W2, W2 = (w.alloc (.cells #[.int .i64 c, .int .i64 n, .slice A ks.length cap] 25)).alloc (.cells #[.int .i64 c, .int .i64 n, .slice A' ks'.length cap'] 25) := ⟨_, rfl⟩
      have hB2 : Below w.heap.size w W2 := by rw [hW2]; exact ((Below.refl _ _).alloc (Nat.le_refl _) _).alloc (by simp) _
      have hz2 : W2.heap.size = w.heap.size + 2 := by rw [hW2]; simp
      have k1 : Blk W2 w.heap.size 25 #[.int .i64 c, .int .i64 n, .slice A ks.length cap] := by rw [hW2]; exact (Blk.new w _ _).same (Below.heap_alloc _ _ _ (by simp))
      have k2 : Blk W2 (w.heap.size + 1) 25 #[.int .i64 c, .int .i64 n, .slice A' ks'.length cap'] := by rw [hW2]; have := Blk.new (w.alloc (.cells #[.int .i64 c, .int .i64 n, .slice A ks.length cap] 25)) 25 #[.int .i64 c, .int .i64 n, .slice A' ks'.length cap']; simpa using this
      rw [← hW2]
      clear hW2
      have K1 := Lib.hid k1
      have K2 := Lib.hid k2
      have HZ2 := Lib.hid hz2
      clear k1 k2 hz2
      go_loopw [5] (fun i wr => ∃ k : Nat, k ≤ ks.length ∧ k ≤ ks'.length ∧ i = .int .i64 k ∧ Hid (V.cmps ks ks' = V.cmps (ks.drop k) (ks'.drop k)) ∧ Below W2.heap.size W2 wr) (fun i _ => ks.length - (intOf i).toNat)
      case atStart => exact ⟨0, Nat.zero_le _, Nat.zero_le _, rfl, rfl, Below.refl _ _⟩
      case round =>
        obtain ⟨k, hk, hk', rfl, HT, hB1⟩ := hrel
        have hB := hB2.trans (hB1.mono hB2.size)
        have hszr : w.heap.size + 2 ≤ wr.heap.size := by have := hB1.size; have := HZ2.out; omega
        have x2 : wr.cell? ⟨w.heap.size, 2, none⟩ = some (.slice A ks.length cap) := ((K1.out.same (hB1.block _ (by have := HZ2.out; omega))).cell 2).trans (by simp)
        have y2 : wr.cell? ⟨w.heap.size + 1, 2, none⟩ = some (.slice A' ks'.length cap') := ((K2.out.same (hB1.block _ (by have := HZ2.out; omega))).cell 2).trans (by simp)
        by_cases hlt : k < ks.length
        · by_cases hlt' : k < ks'.length
          · have hd := V.cmps_drop ks ks' k hlt hlt'
            have hrange := V.cmp_range ks[k] ks'[k]
            obtain ⟨b, off, cs, F1, rfl, hb, hcs, hv, hF1⟩ := HX.out.get VR_len hlt
            obtain ⟨b', off', ds, G1, rfl, hb', hds, hv', hG1⟩ := HY.out.get VR_len hlt'
            have hv1 := hv.below hB (HF.out.sub hF1)
            have hv2 := hv'.below hB (HG.out.sub hG1)
            have hbl := HF.out b hb
            have hbl' := HG.out b' hb'
            have hcs1 := hcs.same (hB.block b hbl)
            have hds1 := hds.same (hB.block b' hbl')
            obtain ⟨kv, rfl, hka⟩ := (VR_iff _ _ _).1 hv
            obtain ⟨kv', rfl, hka'⟩ := (VR_iff _ _ _).1 hv'
            obtain ⟨A1, cap1, rfl, -, -⟩ := hka.form
            obtain ⟨A2, cap2, rfl, -, -⟩ := hka'.form
            have c0 := hcs1 0 _ rfl
            have c1 := hcs1 1 _ rfl
            have c2 := hcs1 2 _ rfl
            have d0 := hds1 0 _ rfl
            have d1 := hds1 1 _ rfl
            have d2 := hds1 2 _ rfl
            simp only [Nat.add_zero] at c0 d0
            clear hcs hcs1 hv hds hds1 hv' hka hka'
            have HV := Lib.hid hv1
            have HV2 := Lib.hid hv2
            have HF1 := Lib.hid (HF.out.sub hF1)
            have HG1 := Lib.hid (HG.out.sub hG1)
            clear hv1 hv2 hF1 hG1
            generalize hc : V.cmp ks[k] ks'[k] = q at *
            by_cases hq : q = 0
            · subst hq
              have hT2 : Hid (V.cmps ks ks' = V.cmps (ks.drop (k + 1)) (ks'.drop (k + 1))) := by rw [if_pos rfl] at hd; exact HT.out.trans hd
              have HC := Lib.hid hc
              clear hd hc
              go_wp2_with fail
              have hkeep : ∀ U U' : World, (U.cell? ⟨w.heap.size, 2, none⟩ = some (.slice (some ⟨b, off, none⟩) ks.length cap) ∧ U.cell? ⟨w.heap.size + 1, 2, none⟩ = some (.slice (some ⟨b', off', none⟩) ks'.length cap') ∧ U.cell? ⟨b, off + k * 3, none⟩ = some (.int .i64 ks[k].c) ∧ U.cell? ⟨b, off + k * 3 + 1, none⟩ = some (.int .i64 ks[k].n) ∧ U.cell? ⟨b, off + k * 3 + 2, none⟩ = some (.slice A1 ks[k].ks.length cap1) ∧ U.cell? ⟨b', off' + k * 3, none⟩ = some (.int .i64 ks'[k].c) ∧ U.cell? ⟨b', off' + k * 3 + 1, none⟩ = some (.int .i64 ks'[k].n) ∧ U.cell? ⟨b', off' + k * 3 + 2, none⟩ = some (.slice A2 ks'[k].ks.length cap2)) → Below U.heap.size U U' → wr.heap.size ≤ U.heap.size → (U'.cell? ⟨w.heap.size, 2, none⟩ = some (.slice (some ⟨b, off, none⟩) ks.length cap) ∧ U'.cell? ⟨w.heap.size + 1, 2, none⟩ = some (.slice (some ⟨b', off', none⟩) ks'.length cap') ∧ U'.cell? ⟨b, off + k * 3, none⟩ = some (.int .i64 ks[k].c) ∧ U'.cell? ⟨b, off + k * 3 + 1, none⟩ = some (.int .i64 ks[k].n) ∧ U'.cell? ⟨b, off + k * 3 + 2, none⟩ = some (.slice A1 ks[k].ks.length cap1) ∧ U'.cell? ⟨b', off' + k * 3, none⟩ = some (.int .i64 ks'[k].c) ∧ U'.cell? ⟨b', off' + k * 3 + 1, none⟩ = some (.int .i64 ks'[k].n) ∧ U'.cell? ⟨b', off' + k * 3 + 2, none⟩ = some (.slice A2 ks'[k].ks.length cap2)) := fun U U' h hb hU => ⟨(hb.cell (Nat.lt_of_lt_of_le (show w.heap.size < wr.heap.size from by omega) hU)).trans h.1, (hb.cell (Nat.lt_of_lt_of_le (show w.heap.size + 1 < wr.heap.size from by omega) hU)).trans h.2.1, (hb.cell (Nat.lt_of_lt_of_le (show b < wr.heap.size from by omega) hU)).trans h.2.2.1, (hb.cell (Nat.lt_of_lt_of_le (show b < wr.heap.size from by omega) hU)).trans h.2.2.2.1, (hb.cell (Nat.lt_of_lt_of_le (show b < wr.heap.size from by omega) hU)).trans h.2.2.2.2.1, (hb.cell (Nat.lt_of_lt_of_le (show b' < wr.heap.size from by omega) hU)).trans h.2.2.2.2.2.1, (hb.cell (Nat.lt_of_lt_of_le (show b' < wr.heap.size from by omega) hU)).trans h.2.2.2.2.2.2.1, (hb.cell (Nat.lt_of_lt_of_le (show b' < wr.heap.size from by omega) hU)).trans h.2.2.2.2.2.2.2⟩
              have HKeep := Lib.hid hkeep
              clear hkeep
              go_region_held3 (fun w' => w'.cell? ⟨w.heap.size, 2, none⟩ = some (.slice (some ⟨b, off, none⟩) ks.length cap) ∧ w'.cell? ⟨w.heap.size + 1, 2, none⟩ = some (.slice (some ⟨b', off', none⟩) ks'.length cap') ∧ w'.cell? ⟨b, off + k * 3, none⟩ = some (.int .i64 ks[k].c) ∧ w'.cell? ⟨b, off + k * 3 + 1, none⟩ = some (.int .i64 ks[k].n) ∧ w'.cell? ⟨b, off + k * 3 + 2, none⟩ = some (.slice A1 ks[k].ks.length cap1) ∧ w'.cell? ⟨b', off' + k * 3, none⟩ = some (.int .i64 ks'[k].c) ∧ w'.cell? ⟨b', off' + k * 3 + 1, none⟩ = some (.int .i64 ks'[k].n) ∧ w'.cell? ⟨b', off' + k * 3 + 2, none⟩ = some (.slice A2 ks'[k].ks.length cap2)) (first | assumption | (exact ⟨x2, y2, c0, c1, c2, d0, d1, d2⟩) | (exact HKeep.out wr.drew w' ⟨x2, y2, c0, c1, c2, d0, d1, d2⟩ hB' (Nat.le_refl _))) (first | (go_at_call 15; refine (IH.out _ (List.getElem_mem hlt) ks'[k] _ _ _ F1 G1 HV.out.drew HV2.out.drew (HF1.out.mono hB.size) (HG1.out.mono hB.size)).mono ?_; rintro e w' ⟨rfl, hB'⟩; rw [HC.out]))
              have hB3 := hB1.drew.trans (hB'.mono hB1.size)
              go_wp2
              go_roundw
              case rel => exact ⟨k + 1, by omega, by omega, by go_num, hT2, hB3⟩
              case measure => simp [intOf]; omega
            · have hq2 : (q != 0) = true := by simpa using hq
              have hf2 : Hid (V.cmp ⟨c, n, ks⟩ ⟨c, n, ks'⟩ = q) := by rw [if_neg hq] at hd; exact hf.out.trans (HT.out.trans hd)
              have HC := Lib.hid hc
              clear hd hc hq
              go_wp2_with fail
              have hkeep : ∀ U U' : World, (U.cell? ⟨w.heap.size, 2, none⟩ = some (.slice (some ⟨b, off, none⟩) ks.length cap) ∧ U.cell? ⟨w.heap.size + 1, 2, none⟩ = some (.slice (some ⟨b', off', none⟩) ks'.length cap') ∧ U.cell? ⟨b, off + k * 3, none⟩ = some (.int .i64 ks[k].c) ∧ U.cell? ⟨b, off + k * 3 + 1, none⟩ = some (.int .i64 ks[k].n) ∧ U.cell? ⟨b, off + k * 3 + 2, none⟩ = some (.slice A1 ks[k].ks.length cap1) ∧ U.cell? ⟨b', off' + k * 3, none⟩ = some (.int .i64 ks'[k].c) ∧ U.cell? ⟨b', off' + k * 3 + 1, none⟩ = some (.int .i64 ks'[k].n) ∧ U.cell? ⟨b', off' + k * 3 + 2, none⟩ = some (.slice A2 ks'[k].ks.length cap2)) → Below U.heap.size U U' → wr.heap.size ≤ U.heap.size → (U'.cell? ⟨w.heap.size, 2, none⟩ = some (.slice (some ⟨b, off, none⟩) ks.length cap) ∧ U'.cell? ⟨w.heap.size + 1, 2, none⟩ = some (.slice (some ⟨b', off', none⟩) ks'.length cap') ∧ U'.cell? ⟨b, off + k * 3, none⟩ = some (.int .i64 ks[k].c) ∧ U'.cell? ⟨b, off + k * 3 + 1, none⟩ = some (.int .i64 ks[k].n) ∧ U'.cell? ⟨b, off + k * 3 + 2, none⟩ = some (.slice A1 ks[k].ks.length cap1) ∧ U'.cell? ⟨b', off' + k * 3, none⟩ = some (.int .i64 ks'[k].c) ∧ U'.cell? ⟨b', off' + k * 3 + 1, none⟩ = some (.int .i64 ks'[k].n) ∧ U'.cell? ⟨b', off' + k * 3 + 2, none⟩ = some (.slice A2 ks'[k].ks.length cap2)) := fun U U' h hb hU => ⟨(hb.cell (Nat.lt_of_lt_of_le (show w.heap.size < wr.heap.size from by omega) hU)).trans h.1, (hb.cell (Nat.lt_of_lt_of_le (show w.heap.size + 1 < wr.heap.size from by omega) hU)).trans h.2.1, (hb.cell (Nat.lt_of_lt_of_le (show b < wr.heap.size from by omega) hU)).trans h.2.2.1, (hb.cell (Nat.lt_of_lt_of_le (show b < wr.heap.size from by omega) hU)).trans h.2.2.2.1, (hb.cell (Nat.lt_of_lt_of_le (show b < wr.heap.size from by omega) hU)).trans h.2.2.2.2.1, (hb.cell (Nat.lt_of_lt_of_le (show b' < wr.heap.size from by omega) hU)).trans h.2.2.2.2.2.1, (hb.cell (Nat.lt_of_lt_of_le (show b' < wr.heap.size from by omega) hU)).trans h.2.2.2.2.2.2.1, (hb.cell (Nat.lt_of_lt_of_le (show b' < wr.heap.size from by omega) hU)).trans h.2.2.2.2.2.2.2⟩
              have HKeep := Lib.hid hkeep
              clear hkeep
              go_region_held3 (fun w' => w'.cell? ⟨w.heap.size, 2, none⟩ = some (.slice (some ⟨b, off, none⟩) ks.length cap) ∧ w'.cell? ⟨w.heap.size + 1, 2, none⟩ = some (.slice (some ⟨b', off', none⟩) ks'.length cap') ∧ w'.cell? ⟨b, off + k * 3, none⟩ = some (.int .i64 ks[k].c) ∧ w'.cell? ⟨b, off + k * 3 + 1, none⟩ = some (.int .i64 ks[k].n) ∧ w'.cell? ⟨b, off + k * 3 + 2, none⟩ = some (.slice A1 ks[k].ks.length cap1) ∧ w'.cell? ⟨b', off' + k * 3, none⟩ = some (.int .i64 ks'[k].c) ∧ w'.cell? ⟨b', off' + k * 3 + 1, none⟩ = some (.int .i64 ks'[k].n) ∧ w'.cell? ⟨b', off' + k * 3 + 2, none⟩ = some (.slice A2 ks'[k].ks.length cap2)) (first | assumption | (exact ⟨x2, y2, c0, c1, c2, d0, d1, d2⟩) | (exact HKeep.out wr.drew w' ⟨x2, y2, c0, c1, c2, d0, d1, d2⟩ hB' (Nat.le_refl _))) (first | (go_at_call 15; refine (IH.out _ (List.getElem_mem hlt) ks'[k] _ _ _ F1 G1 HV.out.drew HV2.out.drew (HF1.out.mono hB.size) (HG1.out.mono hB.size)).mono ?_; rintro e w' ⟨rfl, hB'⟩; rw [HC.out]))
              have hB3 := hB.drew.trans (hB'.mono hB.size)
              go_wp2
              go_ret
              exact ⟨ret_int hf2.out.symm, hB3⟩
          · have hf2 : Hid (V.cmp ⟨c, n, ks⟩ ⟨c, n, ks'⟩ = lessI ks.length ks'.length) := hf.out.trans (HT.out.trans (V.cmps_end ks ks' k hk hk' (.inr (by omega))))
            go_wp2_with (go_at_call 43; refine (spec_l2Less _ _ _).mono ?_; rintro e w' ⟨rfl, rfl⟩)
            go_ret
            exact ⟨ret_int hf2.out.symm, hB⟩
        · have hf2 : Hid (V.cmp ⟨c, n, ks⟩ ⟨c, n, ks'⟩ = lessI ks.length ks'.length) := hf.out.trans (HT.out.trans (V.cmps_end ks ks' k hk hk' (.inl (by omega))))
          go_wp2_with (go_at_call 43; refine (spec_l2Less _ _ _).mono ?_; rintro e w' ⟨rfl, rfl⟩)
          go_ret
          exact ⟨ret_int hf2.out.symm, hB⟩
    · have t1 : (n != n') = true := by simpa using e1
      have hf : Hid (V.cmp ⟨c, n, ks⟩ ⟨c, n', ks'⟩ = lessI n n') := by simp [Hid, V.cmp, e1]
      clear e1
      go_enter Try.func15, Try.ntmps15
      go_wp2_with (go_at_call 43; refine (spec_l2Less _ _ _).mono ?_; rintro e w' ⟨rfl, rfl⟩)
      go_ret
      exact ⟨ret_int hf.out.symm, ((Below.refl _ _).alloc (Nat.le_refl _) _).alloc (by simp) _⟩
  · have t0 : (c != c') = true := by simpa using e0
    have hf : Hid (V.cmp ⟨c, n, ks⟩ ⟨c', n', ks'⟩ = lessI c c') := by simp [Hid, V.cmp, e0]
    clear e0
    go_enter Try.func15, Try.ntmps15
    go_wp2_with (go_at_call 43; refine (spec_l2Less _ _ _).mono ?_; rintro e w' ⟨rfl, rfl⟩)
    go_ret
    exact ⟨ret_int hf.out.symm, ((Below.refl _ _).alloc (Nat.le_refl _) _).alloc (by simp) _⟩
theorem spec_CompareValues (a b : V) (w : World) (cs ds : List Value) (F G : List Nat) (hx : VR w a cs F) (hy : VR w b ds G) (hF : Under w.heap.size F) (hG : Under w.heap.size G) :
    Calls Try.prog 15 #[.agg cs.toArray, .agg ds.toArray] w fun e w' => e = .returned (.int .i64 (V.cmp a b)) ∧ Below w.heap.size w w' := spec_CompareValues_all a b w cs ds F G hx hy hF hG
end Go.Proofs.Ytgckkiencmickaa

namespace Go.Proofs.Ytgckkiencmickaa
open Go.RowKit

mutual
def V.same : V → V → Bool
  | ⟨c, n, ks⟩, ⟨c', n', ks'⟩ => (c == c') && (n == n') && V.sames ks ks'
def V.sames : List V → List V → Bool
  | [], [] => true
  | x :: xs, y :: ys => V.same x y && V.sames xs ys
  | [], _ :: _ => false
  | _ :: _, [] => false
end
theorem V.sames_iff_of (ks : List V) (h : ∀ k ∈ ks, ∀ b, V.same k b = true ↔ k = b) : ∀ ks', V.sames ks ks' = true ↔ ks = ks' := by
  induction ks with
  | nil => intro ks'; cases ks' <;> simp [V.sames]
  | cons x xs ih =>
    intro ks'
    cases ks' with
    | nil => simp [V.sames]
    | cons y ys =>
      simp only [V.sames, Bool.and_eq_true, List.cons.injEq]
      rw [h x (by simp) y, ih (fun k hk => h k (by simp [hk])) ys]
theorem V.same_iff : ∀ a b : V, V.same a b = true ↔ a = b := V.ind fun c n ks ih b => by
  obtain ⟨c', n', ks'⟩ := b
  simp only [V.same, Bool.and_eq_true, V.sames_iff_of ks ih, beq_iff_eq, V.mk.injEq, and_assoc]
theorem V.same_false {a b : V} (h : a ≠ b) : V.same a b = false := by
  rw [Bool.eq_false_iff]
  exact fun e => h ((V.same_iff a b).1 e)

def SameSpecV (a : V) : Prop := ∀ (b : V) (w : World) (cs ds : List Value) (F G : List Nat), VR w a cs F → VR w b ds G → Under w.heap.size F → Under w.heap.size G →
  Calls Try.prog 17 #[.agg cs.toArray, .agg ds.toArray] w fun e w' => e = .returned (.bool (V.same a b)) ∧ Below w.heap.size w w'

set_option maxRecDepth 100000 in
set_option maxHeartbeats 1600000 in
theorem spec_ValueSame_all : ∀ a, SameSpecV a := V.ind fun c n ks ih b w cs ds F G hv hv' hF hG => by
  obtain ⟨c', n', ks'⟩ := b
  obtain ⟨kv, rfl, hk⟩ := (VR_iff _ _ _).1 hv
  obtain ⟨kv', rfl, hk'⟩ := (VR_iff _ _ _).1 hv'
  have IH := Lib.hid ih
  clear ih hv hv'
  have HK := Lib.hid hk
  have HK' := Lib.hid hk'
  obtain ⟨A, cap, rfl, hc1, hc2⟩ := hk.form
  obtain ⟨A', cap', rfl, hc3, hc4⟩ := hk'.form
  clear hk hk'
  have HF := Lib.hid hF
  have HG := Lib.hid hG
  clear hF hG
  by_cases e0 : c = c'
  · subst e0
    have t0 : (c != c) = false := by simp
    have s0 : (c == c) = true := by simp
    by_cases e1 : n = n'
    · subst e1
      have t1 : (n != n) = false := by simp
      have s1 : (n == n) = true := by simp
      by_cases hl : ks.length = ks'.length
      · have tl : ((ks.length : Int) != (ks'.length : Int)) = false := by rw [hl]; simp
        have HL := Lib.hid hl
        have hle1 : ks.length ≤ ks'.length := by omega
        have hle2 : ks'.length ≤ ks.length := by omega
        clear hl
        go_enter Try.func17, Try.ntmps17
        go_wp2
        obtain ⟨W2, hW2⟩ : ∃ W2, W2 = (w.alloc (.cells #[.int .i64 c, .int .i64 n, .slice A ks.length cap] 25)).alloc (.cells #[.int .i64 c, .int .i64 n, .slice A' ks'.length cap'] 25) := ⟨_, rfl⟩
        have hB2 : Below w.heap.size w W2 := by rw [hW2]; exact ((Below.refl _ _).alloc (Nat.le_refl _) _).alloc (by simp) _
        have hz2 : W2.heap.size = w.heap.size + 2 := by rw [hW2]; simp
        have k1 : Blk W2 w.heap.size 25 #[.int .i64 c, .int .i64 n, .slice A ks.length cap] := by rw [hW2]; exact (Blk.new w _ _).same (Below.heap_alloc _ _ _ (by simp))
        have k2 : Blk W2 (w.heap.size + 1) 25 #[.int .i64 c, .int .i64 n, .slice A' ks'.length cap'] := by rw [hW2]; have := Blk.new (w.alloc (.cells #[.int .i64 c, .int .i64 n, .slice A ks.length cap] 25)) 25 #[.int .i64 c, .int .i64 n, .slice A' ks'.length cap']; simpa using this
        rw [← hW2]
        clear hW2
        have K1 := Lib.hid k1
        have K2 := Lib.hid k2
        have HZ2 := Lib.hid hz2
        clear k1 k2 hz2
        go_loopw [5] (fun i wr => ∃ k : Nat, k ≤ ks.length ∧ i = .int .i64 k ∧ Hid (ks.take k = ks'.take k) ∧ Below W2.heap.size W2 wr) (fun i _ => ks.length - (intOf i).toNat)
        case atStart => exact ⟨0, Nat.zero_le _, rfl, rfl, Below.refl _ _⟩
        case round =>
          obtain ⟨k, hk, rfl, HT, hB1⟩ := hrel
          have hB := hB2.trans (hB1.mono hB2.size)
          have hszr : w.heap.size + 2 ≤ wr.heap.size := by have := hB1.size; have := HZ2.out; omega
          have x2 : wr.cell? ⟨w.heap.size, 2, none⟩ = some (.slice A ks.length cap) := ((K1.out.same (hB1.block _ (by have := HZ2.out; omega))).cell 2).trans (by simp)
          have y2 : wr.cell? ⟨w.heap.size + 1, 2, none⟩ = some (.slice A' ks'.length cap') := ((K2.out.same (hB1.block _ (by have := HZ2.out; omega))).cell 2).trans (by simp)
          by_cases hlt : k < ks.length
          · have hlt' : k < ks'.length := by omega
            obtain ⟨b, off, cs, F1, rfl, hb, hcs, hv, hF1⟩ := HK.out.get VR_len hlt
            obtain ⟨b', off', ds, G1, rfl, hb', hds, hv', hG1⟩ := HK'.out.get VR_len hlt'
            have hv1 := hv.below hB (HF.out.sub hF1)
            have hv2 := hv'.below hB (HG.out.sub hG1)
            have hbl := HF.out b hb
            have hbl' := HG.out b' hb'
            have hcs1 := hcs.same (hB.block b hbl)
            have hds1 := hds.same (hB.block b' hbl')
            obtain ⟨kv, rfl, hka⟩ := (VR_iff _ _ _).1 hv
            obtain ⟨kv', rfl, hka'⟩ := (VR_iff _ _ _).1 hv'
            obtain ⟨A1, cap1, rfl, -, -⟩ := hka.form
            obtain ⟨A2, cap2, rfl, -, -⟩ := hka'.form
            have c0 := hcs1 0 _ rfl
            have c1 := hcs1 1 _ rfl
            have c2 := hcs1 2 _ rfl
            have d0 := hds1 0 _ rfl
            have d1 := hds1 1 _ rfl
            have d2 := hds1 2 _ rfl
            simp only [Nat.add_zero] at c0 d0
            clear hcs hcs1 hv hds hds1 hv' hka hka'
            have HV := Lib.hid hv1
            have HV2 := Lib.hid hv2
            have HF1 := Lib.hid (HF.out.sub hF1)
            have HG1 := Lib.hid (HG.out.sub hG1)
            clear hv1 hv2 hF1 hG1
            by_cases he : ks[k] = ks'[k]
            · have hsame : V.same ks[k] ks'[k] = true := (V.same_iff _ _).2 he
              have hT2 : Hid (ks.take (k + 1) = ks'.take (k + 1)) := by rw [take_snoc' ks k hlt, take_snoc' ks' k hlt', HT.out, he]; rfl
              clear he
              go_wp2_with fail
              have hkeep : ∀ U U' : World, (U.cell? ⟨w.heap.size, 2, none⟩ = some (.slice (some ⟨b, off, none⟩) ks.length cap) ∧ U.cell? ⟨w.heap.size + 1, 2, none⟩ = some (.slice (some ⟨b', off', none⟩) ks'.length cap') ∧ U.cell? ⟨b, off + k * 3, none⟩ = some (.int .i64 ks[k].c) ∧ U.cell? ⟨b, off + k * 3 + 1, none⟩ = some (.int .i64 ks[k].n) ∧ U.cell? ⟨b, off + k * 3 + 2, none⟩ = some (.slice A1 ks[k].ks.length cap1) ∧ U.cell? ⟨b', off' + k * 3, none⟩ = some (.int .i64 ks'[k].c) ∧ U.cell? ⟨b', off' + k * 3 + 1, none⟩ = some (.int .i64 ks'[k].n) ∧ U.cell? ⟨b', off' + k * 3 + 2, none⟩ = some (.slice A2 ks'[k].ks.length cap2)) → Below U.heap.size U U' → wr.heap.size ≤ U.heap.size → (U'.cell? ⟨w.heap.size, 2, none⟩ = some (.slice (some ⟨b, off, none⟩) ks.length cap) ∧ U'.cell? ⟨w.heap.size + 1, 2, none⟩ = some (.slice (some ⟨b', off', none⟩) ks'.length cap') ∧ U'.cell? ⟨b, off + k * 3, none⟩ = some (.int .i64 ks[k].c) ∧ U'.cell? ⟨b, off + k * 3 + 1, none⟩ = some (.int .i64 ks[k].n) ∧ U'.cell? ⟨b, off + k * 3 + 2, none⟩ = some (.slice A1 ks[k].ks.length cap1) ∧ U'.cell? ⟨b', off' + k * 3, none⟩ = some (.int .i64 ks'[k].c) ∧ U'.cell? ⟨b', off' + k * 3 + 1, none⟩ = some (.int .i64 ks'[k].n) ∧ U'.cell? ⟨b', off' + k * 3 + 2, none⟩ = some (.slice A2 ks'[k].ks.length cap2)) := fun U U' h hb hU => ⟨(hb.cell (Nat.lt_of_lt_of_le (show w.heap.size < wr.heap.size from by omega) hU)).trans h.1, (hb.cell (Nat.lt_of_lt_of_le (show w.heap.size + 1 < wr.heap.size from by omega) hU)).trans h.2.1, (hb.cell (Nat.lt_of_lt_of_le (show b < wr.heap.size from by omega) hU)).trans h.2.2.1, (hb.cell (Nat.lt_of_lt_of_le (show b < wr.heap.size from by omega) hU)).trans h.2.2.2.1, (hb.cell (Nat.lt_of_lt_of_le (show b < wr.heap.size from by omega) hU)).trans h.2.2.2.2.1, (hb.cell (Nat.lt_of_lt_of_le (show b' < wr.heap.size from by omega) hU)).trans h.2.2.2.2.2.1, (hb.cell (Nat.lt_of_lt_of_le (show b' < wr.heap.size from by omega) hU)).trans h.2.2.2.2.2.2.1, (hb.cell (Nat.lt_of_lt_of_le (show b' < wr.heap.size from by omega) hU)).trans h.2.2.2.2.2.2.2⟩
              have HKeep := Lib.hid hkeep
              clear hkeep
              go_region_held3 (fun w' => w'.cell? ⟨w.heap.size, 2, none⟩ = some (.slice (some ⟨b, off, none⟩) ks.length cap) ∧ w'.cell? ⟨w.heap.size + 1, 2, none⟩ = some (.slice (some ⟨b', off', none⟩) ks'.length cap') ∧ w'.cell? ⟨b, off + k * 3, none⟩ = some (.int .i64 ks[k].c) ∧ w'.cell? ⟨b, off + k * 3 + 1, none⟩ = some (.int .i64 ks[k].n) ∧ w'.cell? ⟨b, off + k * 3 + 2, none⟩ = some (.slice A1 ks[k].ks.length cap1) ∧ w'.cell? ⟨b', off' + k * 3, none⟩ = some (.int .i64 ks'[k].c) ∧ w'.cell? ⟨b', off' + k * 3 + 1, none⟩ = some (.int .i64 ks'[k].n) ∧ w'.cell? ⟨b', off' + k * 3 + 2, none⟩ = some (.slice A2 ks'[k].ks.length cap2)) (first | assumption | (exact ⟨x2, y2, c0, c1, c2, d0, d1, d2⟩) | (exact HKeep.out wr.drew w' ⟨x2, y2, c0, c1, c2, d0, d1, d2⟩ hB' (Nat.le_refl _))) (first | (go_at_call 17; refine (IH.out _ (List.getElem_mem hlt) ks'[k] _ _ _ F1 G1 HV.out.drew HV2.out.drew (HF1.out.mono hB.size) (HG1.out.mono hB.size)).mono ?_; rintro e w' ⟨rfl, hB'⟩; rw [hsame]))
              have hB3 := hB1.drew.trans (hB'.mono hB1.size)
              go_wp2
              go_roundw
              case rel => exact ⟨k + 1, by omega, by go_num, hT2, hB3⟩
              case measure => simp [intOf]; omega
            · have hsame : V.same ks[k] ks'[k] = false := V.same_false he
              have hf := Lib.hid (V.same_false (a := ⟨c, n, ks⟩) (b := ⟨c, n, ks'⟩) (fun h => he (by injection h; simp_all)))
              clear he
              go_wp2_with fail
              have hkeep : ∀ U U' : World, (U.cell? ⟨w.heap.size, 2, none⟩ = some (.slice (some ⟨b, off, none⟩) ks.length cap) ∧ U.cell? ⟨w.heap.size + 1, 2, none⟩ = some (.slice (some ⟨b', off', none⟩) ks'.length cap') ∧ U.cell? ⟨b, off + k * 3, none⟩ = some (.int .i64 ks[k].c) ∧ U.cell? ⟨b, off + k * 3 + 1, none⟩ = some (.int .i64 ks[k].n) ∧ U.cell? ⟨b, off + k * 3 + 2, none⟩ = some (.slice A1 ks[k].ks.length cap1) ∧ U.cell? ⟨b', off' + k * 3, none⟩ = some (.int .i64 ks'[k].c) ∧ U.cell? ⟨b', off' + k * 3 + 1, none⟩ = some (.int .i64 ks'[k].n) ∧ U.cell? ⟨b', off' + k * 3 + 2, none⟩ = some (.slice A2 ks'[k].ks.length cap2)) → Below U.heap.size U U' → wr.heap.size ≤ U.heap.size → (U'.cell? ⟨w.heap.size, 2, none⟩ = some (.slice (some ⟨b, off, none⟩) ks.length cap) ∧ U'.cell? ⟨w.heap.size + 1, 2, none⟩ = some (.slice (some ⟨b', off', none⟩) ks'.length cap') ∧ U'.cell? ⟨b, off + k * 3, none⟩ = some (.int .i64 ks[k].c) ∧ U'.cell? ⟨b, off + k * 3 + 1, none⟩ = some (.int .i64 ks[k].n) ∧ U'.cell? ⟨b, off + k * 3 + 2, none⟩ = some (.slice A1 ks[k].ks.length cap1) ∧ U'.cell? ⟨b', off' + k * 3, none⟩ = some (.int .i64 ks'[k].c) ∧ U'.cell? ⟨b', off' + k * 3 + 1, none⟩ = some (.int .i64 ks'[k].n) ∧ U'.cell? ⟨b', off' + k * 3 + 2, none⟩ = some (.slice A2 ks'[k].ks.length cap2)) := fun U U' h hb hU => ⟨(hb.cell (Nat.lt_of_lt_of_le (show w.heap.size < wr.heap.size from by omega) hU)).trans h.1, (hb.cell (Nat.lt_of_lt_of_le (show w.heap.size + 1 < wr.heap.size from by omega) hU)).trans h.2.1, (hb.cell (Nat.lt_of_lt_of_le (show b < wr.heap.size from by omega) hU)).trans h.2.2.1, (hb.cell (Nat.lt_of_lt_of_le (show b < wr.heap.size from by omega) hU)).trans h.2.2.2.1, (hb.cell (Nat.lt_of_lt_of_le (show b < wr.heap.size from by omega) hU)).trans h.2.2.2.2.1, (hb.cell (Nat.lt_of_lt_of_le (show b' < wr.heap.size from by omega) hU)).trans h.2.2.2.2.2.1, (hb.cell (Nat.lt_of_lt_of_le (show b' < wr.heap.size from by omega) hU)).trans h.2.2.2.2.2.2.1, (hb.cell (Nat.lt_of_lt_of_le (show b' < wr.heap.size from by omega) hU)).trans h.2.2.2.2.2.2.2⟩
              have HKeep := Lib.hid hkeep
              clear hkeep
              go_region_held3 (fun w' => w'.cell? ⟨w.heap.size, 2, none⟩ = some (.slice (some ⟨b, off, none⟩) ks.length cap) ∧ w'.cell? ⟨w.heap.size + 1, 2, none⟩ = some (.slice (some ⟨b', off', none⟩) ks'.length cap') ∧ w'.cell? ⟨b, off + k * 3, none⟩ = some (.int .i64 ks[k].c) ∧ w'.cell? ⟨b, off + k * 3 + 1, none⟩ = some (.int .i64 ks[k].n) ∧ w'.cell? ⟨b, off + k * 3 + 2, none⟩ = some (.slice A1 ks[k].ks.length cap1) ∧ w'.cell? ⟨b', off' + k * 3, none⟩ = some (.int .i64 ks'[k].c) ∧ w'.cell? ⟨b', off' + k * 3 + 1, none⟩ = some (.int .i64 ks'[k].n) ∧ w'.cell? ⟨b', off' + k * 3 + 2, none⟩ = some (.slice A2 ks'[k].ks.length cap2)) (first | assumption | (exact ⟨x2, y2, c0, c1, c2, d0, d1, d2⟩) | (exact HKeep.out wr.drew w' ⟨x2, y2, c0, c1, c2, d0, d1, d2⟩ hB' (Nat.le_refl _))) (first | (go_at_call 17; refine (IH.out _ (List.getElem_mem hlt) ks'[k] _ _ _ F1 G1 HV.out.drew HV2.out.drew (HF1.out.mono hB.size) (HG1.out.mono hB.size)).mono ?_; rintro e w' ⟨rfl, hB'⟩; rw [hsame]))
              have hB3 := hB.drew.trans (hB'.mono hB.size)
              go_wp2
              go_ret
              exact ⟨ret_bool hf.out.symm, hB3⟩
          · have hT := HT.out
            rw [List.take_of_length_le (by omega), List.take_of_length_le (by omega)] at hT
            have hf := Lib.hid ((V.same_iff ⟨c, n, ks⟩ ⟨c, n, ks'⟩).2 (by rw [hT]))
            clear hT
            go_wp2
            go_ret
            exact ⟨ret_bool hf.out.symm, hB⟩
      · have tl : ((ks.length : Int) != (ks'.length : Int)) = true := by rw [bne_iff_ne]; omega
        have hf := Lib.hid (V.same_false (a := ⟨c, n, ks⟩) (b := ⟨c, n, ks'⟩) (fun h => hl (by injection h; simp_all)))
        clear hl
        go_enter Try.func17, Try.ntmps17
        go_wp2
        go_ret
        exact ⟨ret_bool hf.out.symm, ((Below.refl _ _).alloc (Nat.le_refl _) _).alloc (by simp) _⟩
    · have t1 : (n != n') = true := by simpa using e1
      have s1 : (n == n') = false := by simpa using e1
      have hf := Lib.hid (V.same_false (a := ⟨c, n, ks⟩) (b := ⟨c, n', ks'⟩) (fun h => e1 (by injection h)))
      clear e1
      go_enter Try.func17, Try.ntmps17
      go_wp2
      go_ret
      exact ⟨ret_bool hf.out.symm, ((Below.refl _ _).alloc (Nat.le_refl _) _).alloc (by simp) _⟩
  · have t0 : (c != c') = true := by simpa using e0
    have s0 : (c == c') = false := by simpa using e0
    have hf := Lib.hid (V.same_false (a := ⟨c, n, ks⟩) (b := ⟨c', n', ks'⟩) (fun h => e0 (by injection h)))
    clear e0
    go_enter Try.func17, Try.ntmps17
    go_wp2
    go_ret
    exact ⟨ret_bool hf.out.symm, ((Below.refl _ _).alloc (Nat.le_refl _) _).alloc (by simp) _⟩

theorem spec_ValueSame (a b : V) (w : World) (cs ds : List Value) (F G : List Nat) (hx : VR w a cs F) (hy : VR w b ds G) (hF : Under w.heap.size F) (hG : Under w.heap.size G) :
    Calls Try.prog 17 #[.agg cs.toArray, .agg ds.toArray] w fun e w' => e = .returned (.bool (V.same a b)) ∧ Below w.heap.size w w' := spec_ValueSame_all a b w cs ds F G hx hy hF hG
end Go.Proofs.Ytgckkiencmickaa

namespace Go.Proofs.Ytgckkiencmickaa
open Go.RowKit

theorem lessI_anti (a b : Int) : lessI a b = - lessI b a := by
  unfold lessI
  split <;> split <;> omega
theorem lessI_le {a b : Int} : lessI a b ≤ 0 ↔ a ≤ b := by
  unfold lessI
  split
  · constructor <;> intro <;> omega
  · split
    · constructor <;> intro <;> omega
    · constructor <;> intro <;> omega
theorem lessI_zero {a b : Int} : lessI a b = 0 ↔ a = b := by
  unfold lessI
  split
  · constructor <;> intro <;> omega
  · split
    · constructor <;> intro <;> omega
    · constructor <;> intro <;> omega
theorem V.cmps_anti_of (ks : List V) (h : ∀ k ∈ ks, ∀ b, V.cmp k b = - V.cmp b k) : ∀ ks', V.cmps ks ks' = - V.cmps ks' ks := by
  induction ks with
  | nil => intro ks'; cases ks' <;> simp [V.cmps]
  | cons x xs ih =>
    intro ks'
    cases ks' with
    | nil => simp [V.cmps]
    | cons y ys =>
      simp only [V.cmps]
      have h1 := h x (by simp) y
      have h2 := ih (fun k hk => h k (by simp [hk])) ys
      by_cases h3 : V.cmp x y = 0
      · rw [if_pos h3, if_pos (by omega)]; exact h2
      · rw [if_neg h3, if_neg (by omega)]; exact h1
theorem V.cmp_anti : ∀ a b : V, V.cmp a b = - V.cmp b a := V.ind fun c n ks ih b => by
  obtain ⟨c', n', ks'⟩ := b
  simp only [V.cmp]
  by_cases h1 : c = c'
  · rw [if_pos h1, if_pos h1.symm]
    by_cases h2 : n = n'
    · rw [if_pos h2, if_pos h2.symm]; exact V.cmps_anti_of ks ih ks'
    · rw [if_neg h2, if_neg (fun e => h2 e.symm)]; exact lessI_anti _ _
  · rw [if_neg h1, if_neg (fun e => h1 e.symm)]; exact lessI_anti _ _
theorem V.cmps_zero_of (ks : List V) (h : ∀ k ∈ ks, ∀ b, V.cmp k b = 0 ↔ k = b) : ∀ ks', V.cmps ks ks' = 0 ↔ ks = ks' := by
  induction ks with
  | nil => intro ks'; cases ks' <;> simp [V.cmps]
  | cons x xs ih =>
    intro ks'
    cases ks' with
    | nil => simp [V.cmps]
    | cons y ys =>
      simp only [V.cmps]
      have h1 := h x (by simp) y
      have h2 := ih (fun k hk => h k (by simp [hk])) ys
      by_cases h3 : V.cmp x y = 0
      · rw [if_pos h3, h2, List.cons.injEq]
        exact ⟨fun e => ⟨h1.1 h3, e⟩, fun e => e.2⟩
      · rw [if_neg h3, List.cons.injEq]
        exact ⟨fun e => absurd e h3, fun e => absurd (h1.2 e.1) h3⟩
theorem V.cmp_zero : ∀ a b : V, V.cmp a b = 0 ↔ a = b := V.ind fun c n ks ih b => by
  obtain ⟨c', n', ks'⟩ := b
  simp only [V.cmp]
  rw [V.mk.injEq]
  by_cases h1 : c = c'
  · rw [if_pos h1]
    by_cases h2 : n = n'
    · rw [if_pos h2, V.cmps_zero_of ks ih ks']
      exact ⟨fun e => ⟨h1, h2, e⟩, fun e => e.2.2⟩
    · rw [if_neg h2, lessI_zero]
      exact ⟨fun e => absurd e h2, fun e => e.2.1⟩
  · rw [if_neg h1, lessI_zero]
    exact ⟨fun e => absurd e h1, fun e => e.1⟩
theorem V.cmps_trans_of (ks : List V) (h : ∀ k ∈ ks, ∀ b x, V.cmp k b ≤ 0 → V.cmp b x ≤ 0 → V.cmp k x ≤ 0) : ∀ ks' ks'', V.cmps ks ks' ≤ 0 → V.cmps ks' ks'' ≤ 0 → V.cmps ks ks'' ≤ 0 := by
  induction ks with
  | nil => intro ks' ks'' _ _; cases ks'' <;> simp [V.cmps]
  | cons x xs ih =>
    intro ks' ks'' h1 h2
    cases ks' with
    | nil => simp [V.cmps] at h1
    | cons y ys =>
      cases ks'' with
      | nil => simp [V.cmps] at h2
      | cons z zs =>
        simp only [V.cmps] at h1 h2 ⊢
        have h3 := ih (fun k hk => h k (by simp [hk])) ys zs
        have h4 := h x (by simp) y z
        by_cases e1 : V.cmp x y = 0
        · rw [if_pos e1] at h1
          have hxy := (V.cmp_zero x y).1 e1
          subst hxy
          by_cases e2 : V.cmp x z = 0
          · rw [if_pos e2] at h2 ⊢; exact h3 h1 h2
          · rw [if_neg e2] at h2 ⊢; exact h2
        · rw [if_neg e1] at h1
          by_cases e2 : V.cmp y z = 0
          · have hyz := (V.cmp_zero y z).1 e2
            subst hyz
            rw [if_neg e1]; exact h1
          · rw [if_neg e2] at h2
            have h5 := h4 h1 h2
            by_cases e3 : V.cmp x z = 0
            · have hxz := (V.cmp_zero x z).1 e3
              subst hxz
              have := V.cmp_anti x y
              omega
            · rw [if_neg e3]; exact h5
theorem V.cmp_trans : ∀ a b x : V, V.cmp a b ≤ 0 → V.cmp b x ≤ 0 → V.cmp a x ≤ 0 := V.ind fun c n ks ih b x h1 h2 => by
  obtain ⟨c', n', ks'⟩ := b
  obtain ⟨c'', n'', ks''⟩ := x
  simp only [V.cmp] at h1 h2 ⊢
  by_cases g1 : c = c'
  · subst g1
    rw [if_pos rfl] at h1
    by_cases g2 : c = c''
    · subst g2
      rw [if_pos rfl] at h2 ⊢
      by_cases g3 : n = n'
      · subst g3
        rw [if_pos rfl] at h1
        by_cases g4 : n = n''
        · subst g4
          rw [if_pos rfl] at h2 ⊢
          exact V.cmps_trans_of ks ih ks' ks'' h1 h2
        · rw [if_neg g4] at h2 ⊢; exact h2
      · rw [if_neg g3, lessI_le] at h1
        by_cases g4 : n' = n''
        · subst g4
          rw [if_neg g3, lessI_le]; exact h1
        · rw [if_neg g4, lessI_le] at h2
          rw [if_neg (by omega), lessI_le]; omega
    · rw [if_neg g2] at h2 ⊢; exact h2
  · rw [if_neg g1, lessI_le] at h1
    by_cases g2 : c' = c''
    · subst g2
      rw [if_neg g1, lessI_le]; exact h1
    · rw [if_neg g2, lessI_le] at h2
      rw [if_neg (by omega), lessI_le]; omega
/-- the law's last line -/
theorem cmp_law (a b x : V) (h1 : ¬ 0 < V.cmp a b) (h2 : ¬ 0 < V.cmp b x) : V.cmp a x ≤ 0 := V.cmp_trans a b x (by omega) (by omega)
theorem cmp_same (a b : V) : decide (V.cmp a b = 0) = V.same a b := by
  rw [Bool.eq_iff_iff, decide_eq_true_iff, V.cmp_zero, V.same_iff]
end Go.Proofs.Ytgckkiencmickaa

namespace Go.Proofs.Ytgckkiencmickaa
open Go.RowKit

def firstNZ : List Int → Int
  | [] => 0
  | x :: xs => if x = 0 then firstNZ xs else x

set_option maxHeartbeats 400000 in
theorem cmp_Or (xs : List Int) (b off cap : Nat) (w : World) (hc : CellsAt w b off (xs.map (Value.int .i64))) (hl : xs.length ≤ 1000) :
    Calls Try.prog 40 #[.slice (some ⟨b, off, none⟩) xs.length cap] w fun e w' => e = .returned (.int .i64 (firstNZ xs)) ∧ w = w' := by
  have HC := Lib.hid hc
  clear hc
  go_enter Try.func40, Try.ntmps40
  go_wp2
  go_loop [8] (fun i => ∃ k : Nat, k ≤ xs.length ∧ i = .int .i64 k ∧ Hid (firstNZ xs = firstNZ (xs.drop k))) (fun i => xs.length - (intOf i).toNat)
  case atStart => exact ⟨0, Nat.zero_le _, rfl, rfl⟩
  case round =>
    obtain ⟨k, hk, rfl, HT⟩ := hrel
    by_cases hlt : k < xs.length
    · have c0 : w.cell? ⟨b, off + k, none⟩ = some (.int .i64 xs[k]) := HC.out k _ (by rw [List.getElem?_map, List.getElem?_eq_getElem hlt]; rfl)
      have hd : firstNZ (xs.drop k) = if xs[k] = 0 then firstNZ (xs.drop (k + 1)) else xs[k] := by rw [List.drop_eq_getElem_cons hlt, firstNZ]
      by_cases hz : xs[k] = 0
      · rw [if_pos hz] at hd
        have hT2 : Hid (firstNZ xs = firstNZ (xs.drop (k + 1))) := HT.out.trans hd
        rw [hz] at c0
        clear hd hz
        go_wp2
        go_round
        case rel => exact ⟨k + 1, by omega, by go_num, hT2⟩
        case measure => simp [intOf]; omega
      · rw [if_neg hz] at hd
        have hq2 : (xs[k] != 0) = true := by simpa using hz
        have hf : Hid (firstNZ xs = xs[k]) := HT.out.trans hd
        clear hd hz
        go_wp2
        go_ret
        exact ⟨ret_int hf.out.symm, rfl⟩
    · have hf : Hid (firstNZ xs = 0) := by
        have := HT.out
        rw [List.drop_of_length_le (by omega)] at this
        exact this
      go_wp2
      go_ret
      exact ⟨ret_int hf.out.symm, rfl⟩

def CmpImpl (a : V) : Prop := ∀ (b : V) (w : World) (cs ds : List Value) (F G : List Nat), VR w a cs F → VR w b ds G → Under w.heap.size F → Under w.heap.size G →
  Calls Try.prog 14 #[.agg cs.toArray, .agg ds.toArray] w fun e w' => e = .returned (.int .i64 (V.cmp a b)) ∧ Below w.heap.size w w'

set_option maxRecDepth 100000 in
set_option maxHeartbeats 1600000 in
theorem CompareFunc_of (ks : List V) (ih : ∀ k ∈ ks, CmpImpl k) (ks' : List V) (w : World) (x y : Value) (F G : List Nat) (hx : Arr w (VR w) ks x F) (hy : Arr w (VR w) ks' y G) (hF : Under w.heap.size F) (hG : Under w.heap.size G) :
    Calls Try.prog 42 #[x, y, .func (.func 14) #[] #[]] w fun e w' => e = .returned (.int .i64 (V.cmps ks ks')) ∧ Below w.heap.size w w' := by
  have HX := Lib.hid hx
  have HY := Lib.hid hy
  obtain ⟨A, cap, rfl, hc1, hc2⟩ := hx.form
  obtain ⟨A', cap', rfl, hc3, hc4⟩ := hy.form
  clear hx hy
  have IH := Lib.hid ih
  clear ih
  have HF := Lib.hid hF
  have HG := Lib.hid hG
  clear hF hG
  go_enter Try.func42, Try.ntmps42
  go_wp2
  go_loopw [13] (fun i wr => ∃ k : Nat, k ≤ ks.length ∧ k ≤ ks'.length ∧ i = .int .i64 k ∧ Hid (V.cmps ks ks' = V.cmps (ks.drop k) (ks'.drop k)) ∧ Below w.heap.size w wr) (fun i _ => ks.length - (intOf i).toNat)
  case atStart => exact ⟨0, Nat.zero_le _, Nat.zero_le _, rfl, rfl, Below.refl _ _⟩
  case round =>
    obtain ⟨k, hk, hk', rfl, HT, hB⟩ := hrel
    by_cases hlt : k < ks.length
    · by_cases hlt' : k < ks'.length
      · have hd := V.cmps_drop ks ks' k hlt hlt'
        have hrange := V.cmp_range ks[k] ks'[k]
        obtain ⟨b, off, cs, F1, rfl, hb, hcs, hv, hF1⟩ := HX.out.get VR_len hlt
        obtain ⟨b', off', ds, G1, rfl, hb', hds, hv', hG1⟩ := HY.out.get VR_len hlt'
        have hv1 := hv.below hB (HF.out.sub hF1)
        have hv2 := hv'.below hB (HG.out.sub hG1)
        have hbl := HF.out b hb
        have hbl' := HG.out b' hb'
        have hcs1 := hcs.same (hB.block b hbl)
        have hds1 := hds.same (hB.block b' hbl')
        obtain ⟨kv, rfl, hka⟩ := (VR_iff _ _ _).1 hv
        obtain ⟨kv', rfl, hka'⟩ := (VR_iff _ _ _).1 hv'
        obtain ⟨A1, cap1, rfl, -, -⟩ := hka.form
        obtain ⟨A2, cap2, rfl, -, -⟩ := hka'.form
        have c0 := hcs1 0 _ rfl
        have c1 := hcs1 1 _ rfl
        have c2 := hcs1 2 _ rfl
        have d0 := hds1 0 _ rfl
        have d1 := hds1 1 _ rfl
        have d2 := hds1 2 _ rfl
        simp only [Nat.add_zero] at c0 d0
        clear hcs hcs1 hv hds hds1 hv' hka hka'
        have HV := Lib.hid hv1
        have HV2 := Lib.hid hv2
        have HF1 := Lib.hid (HF.out.sub hF1)
        have HG1 := Lib.hid (HG.out.sub hG1)
        clear hv1 hv2 hF1 hG1
        have hblw := Nat.lt_of_lt_of_le hbl hB.size
        have hblw' := Nat.lt_of_lt_of_le hbl' hB.size
        generalize hc : V.cmp ks[k] ks'[k] = q at *
        have HC := Lib.hid hc
        clear hc
        have HD := Lib.hid hd
        clear hd
        go_wp2_with fail
        obtain ⟨W2, hW2⟩ : ∃ W2, W2 = (wr.alloc (.cells #[.int .i64 ks[k].c, .int .i64 ks[k].n, .slice A1 ks[k].ks.length cap1] 25)).alloc (.cells #[.int .i64 ks'[k].c, .int .i64 ks'[k].n, .slice A2 ks'[k].ks.length cap2] 25) := ⟨_, rfl⟩
        have hb2 : Below wr.heap.size wr W2 := by rw [hW2]; exact ((Below.refl _ _).alloc (Nat.le_refl _) _).alloc (by simp) _
        rw [← hW2]
        clear hW2
        have hB2 := hB.trans (hb2.mono hB.size)
        refine (IH.out _ (List.getElem_mem hlt) ks'[k] W2 _ _ F1 G1 (HV.out.below hb2 (HF1.out.mono hB.size)) (HV2.out.below hb2 (HG1.out.mono hB.size)) (HF1.out.mono hB2.size) (HG1.out.mono hB2.size)).mono ?_
        rintro e w' ⟨rfl, hB'⟩
        have hB3 := hB2.trans (hB'.mono hB2.size)
        rw [HC.out]
        by_cases hq : q = 0
        · subst hq
          have hT2 : Hid (V.cmps ks ks' = V.cmps (ks.drop (k + 1)) (ks'.drop (k + 1))) := by have hd := HD.out; rw [if_pos rfl] at hd; exact HT.out.trans hd
          go_wp2
          go_roundw
          case rel => exact ⟨k + 1, by omega, by omega, by go_num, hT2, hB3⟩
          case measure => simp [intOf]; omega
        · have hq2 : (q != 0) = true := by simpa using hq
          have hf2 : Hid (V.cmps ks ks' = q) := by have hd := HD.out; rw [if_neg hq] at hd; exact HT.out.trans hd
          clear hq
          go_wp2
          go_ret
          exact ⟨ret_int hf2.out.symm, hB3⟩
      · have hf2 : Hid (V.cmps ks ks' = 1) := by
          rw [HT.out, V.cmps_end ks ks' k hk hk' (.inr (by omega))]; exact lessI_gt (by omega)
        obtain ⟨b, off, cs, F1, rfl, hb, hcs, hv, hF1⟩ := HX.out.get VR_len hlt
        have hcs1 := hcs.same (hB.block b (HF.out b hb))
        have hblw := Nat.lt_of_lt_of_le (HF.out b hb) hB.size
        obtain ⟨kv, rfl, hka⟩ := (VR_iff _ _ _).1 hv
        obtain ⟨A1, cap1, rfl, -, -⟩ := hka.form
        have c0 := hcs1 0 _ rfl
        have c1 := hcs1 1 _ rfl
        have c2 := hcs1 2 _ rfl
        simp only [Nat.add_zero] at c0
        clear hcs hcs1 hv hF1 hka hb
        go_wp2
        go_ret
        exact ⟨ret_int hf2.out.symm, hB.alloc hB.size _⟩
    · have hcc := V.cmps_end ks ks' k hk hk' (.inl (by omega))
      by_cases hll : ks.length < ks'.length
      · have hf2 : Hid (V.cmps ks ks' = -1) := by rw [HT.out, hcc]; exact lessI_lt (by omega)
        clear hcc
        go_wp2
        go_ret
        exact ⟨ret_int hf2.out.symm, hB⟩
      · have hf2 : Hid (V.cmps ks ks' = 0) := by rw [HT.out, hcc, show ks'.length = ks.length by omega]; exact lessI_eq _
        clear hcc
        go_wp2
        go_ret
        exact ⟨ret_int hf2.out.symm, hB⟩

theorem V.cmp_or (c n c' n' : Int) (ks ks' : List V) : firstNZ [lessI c c', lessI n n', V.cmps ks ks'] = V.cmp ⟨c, n, ks⟩ ⟨c', n', ks'⟩ := by
  simp only [firstNZ, V.cmp]
  have h : ∀ a b : Int, lessI a b = 0 ↔ a = b := fun a b => by
    unfold lessI
    split
    · constructor <;> intro h <;> omega
    · split
      · constructor <;> intro h <;> omega
      · constructor <;> intro h <;> omega
  by_cases h1 : c = c'
  · rw [if_pos ((h _ _).2 h1), if_pos h1]
    by_cases h2 : n = n'
    · rw [if_pos ((h _ _).2 h2), if_pos h2]
      split <;> simp_all
    · rw [if_neg (fun e => h2 ((h _ _).1 e)), if_neg h2]
  · rw [if_neg (fun e => h1 ((h _ _).1 e)), if_neg h1]

set_option maxRecDepth 100000 in
set_option maxHeartbeats 1600000 in
theorem impl_CompareValues_all : ∀ a, CmpImpl a := V.ind fun c n ks ih b w cs ds F G hv hv' hF hG => by
  obtain ⟨c', n', ks'⟩ := b
  obtain ⟨kv, rfl, hk⟩ := (VR_iff _ _ _).1 hv
  obtain ⟨kv', rfl, hk'⟩ := (VR_iff _ _ _).1 hv'
  have IH := Lib.hid ih
  clear ih hv hv'
  have HX := Lib.hid hk
  have HY := Lib.hid hk'
  obtain ⟨A, cap, rfl, hc1, hc2⟩ := hk.form
  obtain ⟨A', cap', rfl, hc3, hc4⟩ := hk'.form
  clear hk hk'
  have HF := Lib.hid hF
  have HG := Lib.hid hG
  clear hF hG
  go_enter Try.func14, Try.ntmps14
  go_wp2_with fail
  obtain ⟨W2, hW2⟩ : ∃ W2, W2 = (w.alloc (.cells #[.int .i64 c, .int .i64 n, .slice A ks.length cap] 25)).alloc (.cells #[.int .i64 c', .int .i64 n', .slice A' ks'.length cap'] 25) := ⟨_, rfl⟩
  have hB2 : Below w.heap.size w W2 := by rw [hW2]; exact ((Below.refl _ _).alloc (Nat.le_refl _) _).alloc (by simp) _
  have hz2 : w.heap.size + 2 ≤ W2.heap.size := by rw [hW2]; simp
  have k1 : Blk W2 w.heap.size 25 #[.int .i64 c, .int .i64 n, .slice A ks.length cap] := by rw [hW2]; exact (Blk.new w _ _).same (Below.heap_alloc _ _ _ (by simp))
  have k2 : Blk W2 (w.heap.size + 1) 25 #[.int .i64 c', .int .i64 n', .slice A' ks'.length cap'] := by rw [hW2]; have := Blk.new (w.alloc (.cells #[.int .i64 c, .int .i64 n, .slice A ks.length cap] 25)) 25 #[.int .i64 c', .int .i64 n', .slice A' ks'.length cap']; simpa using this
  rw [← hW2]
  clear hW2
  have x0 : W2.cell? ⟨w.heap.size, 0, none⟩ = some (.int .i64 c) := (k1.cell 0).trans (by simp)
  have x1 : W2.cell? ⟨w.heap.size, 1, none⟩ = some (.int .i64 n) := (k1.cell 1).trans (by simp)
  have x2 : W2.cell? ⟨w.heap.size, 2, none⟩ = some (.slice A ks.length cap) := (k1.cell 2).trans (by simp)
  have y0 : W2.cell? ⟨w.heap.size + 1, 0, none⟩ = some (.int .i64 c') := (k2.cell 0).trans (by simp)
  have y1 : W2.cell? ⟨w.heap.size + 1, 1, none⟩ = some (.int .i64 n') := (k2.cell 1).trans (by simp)
  have y2 : W2.cell? ⟨w.heap.size + 1, 2, none⟩ = some (.slice A' ks'.length cap') := (k2.cell 2).trans (by simp)
  clear k1 k2
  have hBd := hB2.drew
  have HX2 := Lib.hid (ArrV.below HX.out hBd HF.out)
  have HY2 := Lib.hid (ArrV.below HY.out hBd HG.out)
  have hkeep : ∀ U U' : World, (U.cell? ⟨w.heap.size, 0, none⟩ = some (.int .i64 c) ∧ U.cell? ⟨w.heap.size, 1, none⟩ = some (.int .i64 n) ∧ U.cell? ⟨w.heap.size, 2, none⟩ = some (.slice A ks.length cap) ∧ U.cell? ⟨w.heap.size + 1, 0, none⟩ = some (.int .i64 c') ∧ U.cell? ⟨w.heap.size + 1, 1, none⟩ = some (.int .i64 n') ∧ U.cell? ⟨w.heap.size + 1, 2, none⟩ = some (.slice A' ks'.length cap')) → Below U.heap.size U U' → w.heap.size + 2 ≤ U.heap.size → (U'.cell? ⟨w.heap.size, 0, none⟩ = some (.int .i64 c) ∧ U'.cell? ⟨w.heap.size, 1, none⟩ = some (.int .i64 n) ∧ U'.cell? ⟨w.heap.size, 2, none⟩ = some (.slice A ks.length cap) ∧ U'.cell? ⟨w.heap.size + 1, 0, none⟩ = some (.int .i64 c') ∧ U'.cell? ⟨w.heap.size + 1, 1, none⟩ = some (.int .i64 n') ∧ U'.cell? ⟨w.heap.size + 1, 2, none⟩ = some (.slice A' ks'.length cap')) := fun U U' h hb hU => ⟨(hb.cell (Nat.lt_of_lt_of_le (show _ < w.heap.size + 2 from by simp) hU)).trans h.1, (hb.cell (Nat.lt_of_lt_of_le (show _ < w.heap.size + 2 from by simp) hU)).trans h.2.1, (hb.cell (Nat.lt_of_lt_of_le (show _ < w.heap.size + 2 from by simp) hU)).trans h.2.2.1, (hb.cell (Nat.lt_of_lt_of_le (show _ < w.heap.size + 2 from by simp) hU)).trans h.2.2.2.1, (hb.cell (Nat.lt_of_lt_of_le (show _ < w.heap.size + 2 from by simp) hU)).trans h.2.2.2.2.1, (hb.cell (Nat.lt_of_lt_of_le (show _ < w.heap.size + 2 from by simp) hU)).trans h.2.2.2.2.2⟩
  have HKeep := Lib.hid hkeep
  clear hkeep
  go_region_held3 (fun w' => w'.cell? ⟨w.heap.size, 0, none⟩ = some (.int .i64 c) ∧ w'.cell? ⟨w.heap.size, 1, none⟩ = some (.int .i64 n) ∧ w'.cell? ⟨w.heap.size, 2, none⟩ = some (.slice A ks.length cap) ∧ w'.cell? ⟨w.heap.size + 1, 0, none⟩ = some (.int .i64 c') ∧ w'.cell? ⟨w.heap.size + 1, 1, none⟩ = some (.int .i64 n') ∧ w'.cell? ⟨w.heap.size + 1, 2, none⟩ = some (.slice A' ks'.length cap')) (first | assumption | (exact ⟨x0, x1, x2, y0, y1, y2⟩) | (exact HKeep.out W2.drew W3 ⟨x0, x1, x2, y0, y1, y2⟩ hb3 hz2) | (exact HKeep.out _ _ (by assumption) ((Below.refl _ _).alloc (Nat.le_refl _) _) hz3)) (first | (go_at_call 41; ((with_reducible refine (cmp_Compare c c' _).mono ?_); rintro e w1 ⟨rfl, rfl⟩)) | (go_at_call 41; ((with_reducible refine (cmp_Compare n n' _).mono ?_); rintro e w1 ⟨rfl, rfl⟩)) | (go_at_call 42; ((with_reducible refine (CompareFunc_of ks IH.out ks' _ _ _ F G HX2.out HY2.out (HF.out.mono hBd.size) (HG.out.mono hBd.size)).mono ?_); rintro e W3 ⟨rfl, hb3⟩; have hz3 : w.heap.size + 2 ≤ W3.heap.size := Nat.le_trans hz2 hb3.size)) | (go_at_call 40; (refine (cmp_Or [lessI c c', lessI n n', V.cmps ks ks'] _ 0 _ _ ?_ (by simp)).mono ?_; (exact fun j u hj => by rw [(Blk.new W3 _ _).cell]; simpa using hj); rintro e w5 ⟨rfl, rfl⟩)))
  have hB5 := hB2.drew.trans (hb3.mono hB2.size)
  have hfin := Lib.hid (V.cmp_or c n c' n' ks ks')
  go_wp2
  go_ret
  exact ⟨ret_int hfin.out, hB5.alloc hB5.size _⟩
theorem impl_CompareValues (a b : V) (w : World) (cs ds : List Value) (F G : List Nat) (hx : VR w a cs F) (hy : VR w b ds G) (hF : Under w.heap.size F) (hG : Under w.heap.size G) :
    Calls Try.prog 14 #[.agg cs.toArray, .agg ds.toArray] w fun e w' => e = .returned (.int .i64 (V.cmp a b)) ∧ Below w.heap.size w w' := impl_CompareValues_all a b w cs ds F G hx hy hF hG
end Go.Proofs.Ytgckkiencmickaa

namespace Go.Proofs.Ytgckkiencmickaa
open Go.RowKit

theorem V.sames_iff (ks ks' : List V) : V.sames ks ks' = true ↔ ks = ks' := V.sames_iff_of ks (fun k _ => V.same_iff k) ks'
theorem V.sames_false {ks ks' : List V} (h : ks ≠ ks') : V.sames ks ks' = false := by
  rw [Bool.eq_false_iff]
  exact fun e => h ((V.sames_iff ks ks').1 e)

def SameImplV (a : V) : Prop := ∀ (b : V) (w : World) (cs ds : List Value) (F G : List Nat), VR w a cs F → VR w b ds G → Under w.heap.size F → Under w.heap.size G →
  Calls Try.prog 16 #[.agg cs.toArray, .agg ds.toArray] w fun e w' => e = .returned (.bool (V.same a b)) ∧ Below w.heap.size w w'

set_option maxRecDepth 100000 in
set_option maxHeartbeats 1600000 in
theorem EqualFunc_ofV (ks : List V) (ih : ∀ k ∈ ks, SameImplV k) (ks' : List V) (w : World) (x y : Value) (F G : List Nat) (hx : Arr w (VR w) ks x F) (hy : Arr w (VR w) ks' y G) (hF : Under w.heap.size F) (hG : Under w.heap.size G) :
    Calls Try.prog 44 #[x, y, .func (.func 16) #[] #[]] w fun e w' => e = .returned (.bool (V.sames ks ks')) ∧ Below w.heap.size w w' := by
  have HX := Lib.hid hx
  have HY := Lib.hid hy
  obtain ⟨A, cap, rfl, hc1, hc2⟩ := hx.form
  obtain ⟨A', cap', rfl, hc3, hc4⟩ := hy.form
  clear hx hy
  have IH := Lib.hid ih
  clear ih
  have HF := Lib.hid hF
  have HG := Lib.hid hG
  clear hF hG
  by_cases hl : ks.length = ks'.length
  · have tl : ((ks.length : Int) != (ks'.length : Int)) = false := by rw [hl]; simp
    have HL := Lib.hid hl
    have hle1 : ks.length ≤ ks'.length := by omega
    have hle2 : ks'.length ≤ ks.length := by omega
    clear hl
    go_enter Try.func44, Try.ntmps44
    go_wp2
    go_loopw [17] (fun i wr => ∃ k : Nat, k ≤ ks.length ∧ i = .int .i64 k ∧ Hid (ks.take k = ks'.take k) ∧ Below w.heap.size w wr) (fun i _ => ks.length - (intOf i).toNat)
    case atStart => exact ⟨0, Nat.zero_le _, rfl, rfl, Below.refl _ _⟩
    case round =>
      obtain ⟨k, hk, rfl, HT, hB⟩ := hrel
      by_cases hlt : k < ks.length
      · have hlt' : k < ks'.length := by omega
        obtain ⟨b, off, cs, F1, rfl, hb, hcs, hv, hF1⟩ := HX.out.get VR_len hlt
        obtain ⟨b', off', ds, G1, rfl, hb', hds, hv', hG1⟩ := HY.out.get VR_len hlt'
        have hv1 := hv.below hB (HF.out.sub hF1)
        have hv2 := hv'.below hB (HG.out.sub hG1)
        have hbl := Nat.lt_of_lt_of_le (HF.out b hb) hB.size
        have hbl' := Nat.lt_of_lt_of_le (HG.out b' hb') hB.size
        have hcs1 := hcs.same (hB.block b (HF.out b hb))
        have hds1 := hds.same (hB.block b' (HG.out b' hb'))
        obtain ⟨kv, rfl, hka⟩ := (VR_iff _ _ _).1 hv
        obtain ⟨kv', rfl, hka'⟩ := (VR_iff _ _ _).1 hv'
        obtain ⟨A1, cap1, rfl, -, -⟩ := hka.form
        obtain ⟨A2, cap2, rfl, -, -⟩ := hka'.form
        have c0 := hcs1 0 _ rfl
        have c1 := hcs1 1 _ rfl
        have c2 := hcs1 2 _ rfl
        have d0 := hds1 0 _ rfl
        have d1 := hds1 1 _ rfl
        have d2 := hds1 2 _ rfl
        simp only [Nat.add_zero] at c0 d0
        clear hcs hcs1 hv hds hds1 hv' hka hka'
        have HV := Lib.hid hv1
        have HV2 := Lib.hid hv2
        have HF1 := Lib.hid (HF.out.sub hF1)
        have HG1 := Lib.hid (HG.out.sub hG1)
        clear hv1 hv2 hF1 hG1
        go_wp2_with fail
        obtain ⟨W2, hW2⟩ : ∃ W2, W2 = (wr.alloc (.cells #[.int .i64 ks[k].c, .int .i64 ks[k].n, .slice A1 ks[k].ks.length cap1] 25)).alloc (.cells #[.int .i64 ks'[k].c, .int .i64 ks'[k].n, .slice A2 ks'[k].ks.length cap2] 25) := ⟨_, rfl⟩
        have hb2 : Below wr.heap.size wr W2 := by rw [hW2]; exact ((Below.refl _ _).alloc (Nat.le_refl _) _).alloc (by simp) _
        rw [← hW2]
        clear hW2
        have hB2 := hB.trans (hb2.mono hB.size)
        refine (IH.out _ (List.getElem_mem hlt) ks'[k] W2 _ _ F1 G1 (HV.out.below hb2 (HF1.out.mono hB.size)) (HV2.out.below hb2 (HG1.out.mono hB.size)) (HF1.out.mono hB2.size) (HG1.out.mono hB2.size)).mono ?_
        rintro e w' ⟨rfl, hB'⟩
        have hB3 := hB2.trans (hB'.mono hB2.size)
        by_cases he : ks[k] = ks'[k]
        · rw [(V.same_iff _ _).2 he]
          have hT2 : Hid (ks.take (k + 1) = ks'.take (k + 1)) := by rw [take_snoc' ks k hlt, take_snoc' ks' k hlt', HT.out, he]; rfl
          clear he
          go_wp2
          go_roundw
          case rel => exact ⟨k + 1, by omega, by go_num, hT2, hB3⟩
          case measure => simp [intOf]; omega
        · rw [V.same_false he]
          have hf := Lib.hid (V.sames_false (ks := ks) (ks' := ks') (fun h => he (by simp only [h])))
          clear he
          go_wp2
          go_ret
          exact ⟨ret_bool hf.out.symm, hB3⟩
      · have hT := HT.out
        rw [List.take_of_length_le (by omega), List.take_of_length_le (by omega)] at hT
        have hf := Lib.hid ((V.sames_iff ks ks').2 hT)
        clear hT
        go_wp2
        go_ret
        exact ⟨ret_bool hf.out.symm, hB⟩
  · have tl : ((ks.length : Int) != (ks'.length : Int)) = true := by rw [bne_iff_ne]; omega
    have hf := Lib.hid (V.sames_false (ks := ks) (ks' := ks') (fun h => hl (by rw [h])))
    clear hl
    go_enter Try.func44, Try.ntmps44
    go_wp2
    go_ret
    exact ⟨ret_bool hf.out.symm, Below.refl _ _⟩

set_option maxRecDepth 100000 in
set_option maxHeartbeats 1600000 in
theorem impl_ValueSame_all : ∀ a, SameImplV a := V.ind fun c n ks ih b w cs ds F G hv hv' hF hG => by
  obtain ⟨c', n', ks'⟩ := b
  obtain ⟨kv, rfl, hk⟩ := (VR_iff _ _ _).1 hv
  obtain ⟨kv', rfl, hk'⟩ := (VR_iff _ _ _).1 hv'
  have IH := Lib.hid ih
  clear ih hv hv'
  have HK := Lib.hid hk
  have HK' := Lib.hid hk'
  obtain ⟨A, cap, rfl, hc1, hc2⟩ := hk.form
  obtain ⟨A', cap', rfl, hc3, hc4⟩ := hk'.form
  clear hk hk'
  have HF := Lib.hid hF
  have HG := Lib.hid hG
  clear hF hG
  by_cases e0 : c = c'
  · subst e0
    have t0 : (c != c) = false := by simp
    have s0 : (c == c) = true := by simp
    by_cases e1 : n = n'
    · subst e1
      have t1 : (n != n) = false := by simp
      have s1 : (n == n) = true := by simp
      go_enter Try.func16, Try.ntmps16
      go_wp2_with fail
      obtain ⟨W2, hW2⟩ : ∃ W2, W2 = (w.alloc (.cells #[.int .i64 c, .int .i64 n, .slice A ks.length cap] 25)).alloc (.cells #[.int .i64 c, .int .i64 n, .slice A' ks'.length cap'] 25) := ⟨_, rfl⟩
      have hB2 : Below w.heap.size w W2 := by rw [hW2]; exact ((Below.refl _ _).alloc (Nat.le_refl _) _).alloc (by simp) _
      rw [← hW2]
      clear hW2
      refine (EqualFunc_ofV ks IH.out ks' W2 _ _ F G (ArrV.below HK.out hB2 HF.out) (ArrV.below HK'.out hB2 HG.out) (HF.out.mono hB2.size) (HG.out.mono hB2.size)).mono ?_
      rintro e w' ⟨rfl, hB'⟩
      have hB3 := hB2.trans (hB'.mono hB2.size)
      have hf : Hid (V.sames ks ks' = V.same ⟨c, n, ks⟩ ⟨c, n, ks'⟩) := by simp [Hid, V.same]
      generalize V.sames ks ks' = bb at *
      go_wp2
      go_ret
      exact ⟨ret_bool hf.out, hB3⟩
    · have t1 : (n != n') = true := by simpa using e1
      have s1 : (n == n') = false := by simpa using e1
      have hf := Lib.hid (V.same_false (a := ⟨c, n, ks⟩) (b := ⟨c, n', ks'⟩) (fun h => e1 (by injection h)))
      clear e1
      go_enter Try.func16, Try.ntmps16
      go_wp2
      go_ret
      exact ⟨ret_bool hf.out.symm, ((Below.refl _ _).alloc (Nat.le_refl _) _).alloc (by simp) _⟩
  · have t0 : (c != c') = true := by simpa using e0
    have s0 : (c == c') = false := by simpa using e0
    have hf := Lib.hid (V.same_false (a := ⟨c, n, ks⟩) (b := ⟨c', n', ks'⟩) (fun h => e0 (by injection h)))
    clear e0
    go_enter Try.func16, Try.ntmps16
    go_wp2
    go_ret
    exact ⟨ret_bool hf.out.symm, ((Below.refl _ _).alloc (Nat.le_refl _) _).alloc (by simp) _⟩

theorem impl_ValueSame (a b : V) (w : World) (cs ds : List Value) (F G : List Nat) (hx : VR w a cs F) (hy : VR w b ds G) (hF : Under w.heap.size F) (hG : Under w.heap.size G) :
    Calls Try.prog 16 #[.agg cs.toArray, .agg ds.toArray] w fun e w' => e = .returned (.bool (V.same a b)) ∧ Below w.heap.size w w' := impl_ValueSame_all a b w cs ds F G hx hy hF hG
end Go.Proofs.Ytgckkiencmickaa
