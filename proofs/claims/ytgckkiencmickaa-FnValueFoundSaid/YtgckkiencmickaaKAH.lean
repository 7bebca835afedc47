/-
  Lemmas and contracts of functions: DrawValueValid of the reference: a world, a type and a value. Conditions: none. DrawDepthOf of the reference: a value. Conditions: none. Contracts of the two functions DepthOf. Conditions: at most 1048576 parts. What comes in as an argument (slices of structs, trees) lies in memory as the plain data say. Conditions: none. A slice of bytes that comes in as an argument lies in memory as the plain data say. Conditions: none.
-/
import Derived.Test.YtgckkiencmickaaKAF
import Derived.Test.YtgckkiencmickaaKAG
import Derived.Test.YtgckkiencmickaaKAC
import Derived.Test.YtgckkiencmickaaKAB
import Derived.Test.YtgckkiencmickaaChecked
import Derived.Test.YtgckkiencmickaaKAA
import Derived.ProofKit
import Derived.ChangeArms
import Derived.Deep.Fields

set_option linter.unusedVariables false
set_option linter.unusedSimpArgs false

namespace Go.Proofs.Ytgckkiencmickaa
open Go.RowKit

/-- a world, a type and a value -/
def DrewWTV (w : World) (e : Ending) (w' : World) : Prop := ∃ (xs : List Dt) (v : Value) (F : List Nat) (t : Ty) (a : V) (cs : List Value) (G : List Nat), e = .returned (.tuple #[v, .agg #[.int .i64 t.d, .int .i64 t.i], .agg cs.toArray]) ∧ Below w.heap.size w w' ∧ Arr w' (DtR w') xs v F ∧ Fresh w w' F ∧ VR w' a cs G ∧ Fresh w w' G ∧ nodes a ≤ 600000
set_option maxRecDepth 100000 in
set_option maxHeartbeats 8000000 in
theorem spec_DrawValueValid (bs : List Int) (w : World) (v : Value) (F : List Nat) (hx : Arr w (ByR w) bs v F) (hf : Under w.heap.size F) :
    Calls Try.prog 18 #[v] w (DrewWTV w) := by
  have hB2 : Below w.heap.size w ((w.alloc (.cells #[.int .i64 0, .int .i64 0] 36)).alloc (.cells #[.int .i64 0, .int .i64 0, .slice none 0 0] 25)) := ((Below.refl _ _).alloc (Nat.le_refl _) _).alloc (by simp) _
  have K22 : Hid (Blk ((w.alloc (.cells #[.int .i64 0, .int .i64 0] 36)).alloc (.cells #[.int .i64 0, .int .i64 0, .slice none 0 0] 25)) (w.heap.size) 36 #[.int .i64 0, .int .i64 0]) := (Blk.new w _ _).same (Below.heap_alloc _ _ _ (by simp))
  have K32 : Hid (Blk ((w.alloc (.cells #[.int .i64 0, .int .i64 0] 36)).alloc (.cells #[.int .i64 0, .int .i64 0, .slice none 0 0] 25)) (w.heap.size + 1) 25 #[.int .i64 0, .int .i64 0, .slice none 0 0]) := blk_second w _ 25 _
  have hs2 : (((w.alloc (.cells #[.int .i64 0, .int .i64 0] 36)).alloc (.cells #[.int .i64 0, .int .i64 0, .slice none 0 0] 25))).heap.size = w.heap.size + 2 := by simp
  have HX2 : Hid (Arr ((w.alloc (.cells #[.int .i64 0, .int .i64 0] 36)).alloc (.cells #[.int .i64 0, .int .i64 0, .slice none 0 0] 25)) (ByR ((w.alloc (.cells #[.int .i64 0, .int .i64 0] 36)).alloc (.cells #[.int .i64 0, .int .i64 0, .slice none 0 0] 25))) bs v F) := ArrBy.mono hx (.of_below hB2 hf)
  have HU2 : Hid (Under (((w.alloc (.cells #[.int .i64 0, .int .i64 0] 36)).alloc (.cells #[.int .i64 0, .int .i64 0, .slice none 0 0] 25))).heap.size F) := hf.mono hB2.size
  clear hx hf
  go_enter Try.func18, Try.ntmps18
  go_wp2_with fail
  obtain ⟨w2, hw2⟩ : ∃ X, X = ((w.alloc (.cells #[.int .i64 0, .int .i64 0] 36)).alloc (.cells #[.int .i64 0, .int .i64 0, .slice none 0 0] 25)) := ⟨_, rfl⟩
  rw [← hw2] at hB2 K22 K32 hs2 HX2 HU2 ⊢
  clear hw2
  refine (spec_l17Open bs w2 v F HX2.out HU2.out).mono ?_
  rintro e w3 ⟨g, rfl, hge, hb3, hR3⟩
  have HR3 := Lib.hid hR3
  have hg3 : g < w3.heap.size := hR3.lt
  have hB3 : Below w.heap.size w w3 := hB2.trans (hb3.mono hB2.size)
  have K23 := Lib.hid (K22.out.same (hb3.block _ K22.out.lt))
  have K33 := Lib.hid (K32.out.same (hb3.block _ K32.out.lt))
  clear hR3 hb3 K22 K32 HX2 HU2 hB2
  go_wp2_with fail
  refine (spec_l2Typed 0 g w3 HR3.out (by omega)).mono ?_
  rintro e w4 ⟨xs, v4, FW, t, a, csa, Fa, q4, rfl, htok, ha4, hfs4, hp4, hf4, hn4, hr4, hq4, hc4⟩
  obtain ⟨kva, rfl, haa⟩ := (VR_iff _ _ _).1 hp4
  obtain ⟨pA, pcap, rfl, -, -⟩ := haa.form
  obtain ⟨A1, cap1, rfl, -, -⟩ := ha4.form
  have hz4 := hc4.size
  have hB4 : Below w.heap.size w w4 := hB3.trans (hc4.below (fun b hb => by rw [List.mem_singleton] at hb; omega) hB3.size)
  have K24 := Lib.hid (K23.out.same (hc4.block _ K23.out.lt (by rw [List.mem_singleton]; omega)))
  have K34 := Lib.hid (K33.out.same (hc4.block _ K33.out.lt (by rw [List.mem_singleton]; omega)))
  have HTOK := Lib.hid htok
  have HFW : Hid (∀ b ∈ FW, w3.heap.size ≤ b) := fun b hb => (hfs4 b hb).1
  have HFA : Hid (∀ b ∈ Fa, w3.heap.size ≤ b ∧ b ≠ g) := fun b hb => ⟨(hf4 b hb).1, by have := (hf4 b hb).1; omega⟩
  have hfwk := fun b hb => (hfs4 b hb).2
  have hfak := fun b hb => (hf4 b hb).2
  have HNA : Hid (nodes a ≤ 600000) := by unfold Hid; omega
  have hna : nodes a ≤ 256 := hn4
  have hb5 : Below w4.heap.size w4 ((w4.alloc (.cells #[.int .i64 t.d, .int .i64 t.i] 36)).alloc (.cells #[.int .i64 a.c, .int .i64 a.n, .slice pA a.ks.length pcap] 25)) := ((Below.refl _ _).alloc (Nat.le_refl _) _).alloc (by simp) _
  have KB5 : Hid (Blk ((w4.alloc (.cells #[.int .i64 t.d, .int .i64 t.i] 36)).alloc (.cells #[.int .i64 a.c, .int .i64 a.n, .slice pA a.ks.length pcap] 25)) w4.heap.size 36 #[.int .i64 t.d, .int .i64 t.i]) := (Blk.new w4 _ _).same (Below.heap_alloc _ _ _ (by simp))
  have KC5 : Hid (Blk ((w4.alloc (.cells #[.int .i64 t.d, .int .i64 t.i] 36)).alloc (.cells #[.int .i64 a.c, .int .i64 a.n, .slice pA a.ks.length pcap] 25)) (w4.heap.size + 1) 25 #[.int .i64 a.c, .int .i64 a.n, .slice pA a.ks.length pcap]) := blk_second w4 _ 25 _
  have HA5 := Lib.hid (ArrDt.below ha4 hb5 (Fresh.under hfs4))
  have HUW5 : Hid (Under (((w4.alloc (.cells #[.int .i64 t.d, .int .i64 t.i] 36)).alloc (.cells #[.int .i64 a.c, .int .i64 a.n, .slice pA a.ks.length pcap] 25))).heap.size FW) := (Fresh.under hfs4).mono hb5.size
  have HP5 := Lib.hid (VR.below hp4 hb5 (fun b hb => (hf4 b hb).2))
  have HUa5 : Hid (Under (((w4.alloc (.cells #[.int .i64 t.d, .int .i64 t.i] 36)).alloc (.cells #[.int .i64 a.c, .int .i64 a.n, .slice pA a.ks.length pcap] 25))).heap.size Fa) := fun b hb => Nat.lt_of_lt_of_le (hf4 b hb).2 hb5.size
  have HR5 := Lib.hid (hr4.below hb5)
  have HB5 : Hid (Below w.heap.size w ((w4.alloc (.cells #[.int .i64 t.d, .int .i64 t.i] 36)).alloc (.cells #[.int .i64 a.c, .int .i64 a.n, .slice pA a.ks.length pcap] 25))) := hB4.trans (hb5.mono hB4.size)
  have K25 := Lib.hid (K24.out.same (hb5.block _ K24.out.lt))
  have K35 := Lib.hid (K34.out.same (hb5.block _ K34.out.lt))
  clear htok ha4 hfs4 hp4 hf4 hn4 hr4 hc4 haa hb5 K23 K33 K24 K34 HR3 hB3 hB4
  go_wp2_with fail
  obtain ⟨w5, hw5⟩ : ∃ X, X = ((w4.alloc (.cells #[.int .i64 t.d, .int .i64 t.i] 36)).alloc (.cells #[.int .i64 a.c, .int .i64 a.n, .slice pA a.ks.length pcap] 25)) := ⟨_, rfl⟩
  rw [← hw5] at KB5 KC5 HA5 HUW5 HP5 HUa5 HR5 HB5 K25 K35 ⊢
  clear hw5
  obtain ⟨k, hk⟩ : ∃ X, X = w4.heap.size := ⟨_, rfl⟩
  obtain ⟨kp, hkp⟩ : ∃ X, X = k + 1 := ⟨_, rfl⟩
  rw [← hk] at KB5 KC5 hz4 hfwk hfak ⊢
  have HKW := Lib.hid hfwk
  have HKA := Lib.hid hfak
  clear hfwk hfak
  rw [← hkp] at KC5
  first | rw [← hkp] | skip
  have hkn : k < kp := by omega
  have HKH := Lib.hid (And.intro hk hkp)
  clear hk hkp
  refine (pick_any 8 q4 g w5 HR5.out (by omega) (by omega) (by omega)).mono ?_
  rintro e w6 ⟨r, rfl, hr2, hR6, hc6⟩
  have HR6 := Lib.hid hR6
  have HB6 : Hid (Below w.heap.size w w6) := HB5.out.trans (hc6.below (fun b hb => by rw [List.mem_singleton] at hb; omega) HB5.out.size)
  have hn1 : ∀ b, b < g ∨ w3.heap.size ≤ b → b ∉ [g] := fun b hb h => by rw [List.mem_singleton] at h; omega
  have K26 := Lib.hid (K25.out.same (hc6.block _ K25.out.lt (hn1 _ (.inl (by omega)))))
  have K36 := Lib.hid (K35.out.same (hc6.block _ K35.out.lt (hn1 _ (.inl (by omega)))))
  have KB6 := Lib.hid (KB5.out.same (hc6.block _ KB5.out.lt (hn1 _ (.inr (by omega)))))
  have KC6 := Lib.hid (KC5.out.same (hc6.block _ KC5.out.lt (hn1 _ (.inr (by omega)))))
  have HA6 := Lib.hid (ArrDt.mono HA5.out (hc6.kept HUW5.out (fun b hb => hn1 b (.inr (HFW.out b hb)))))
  have HUW6 : Hid (Under w6.heap.size FW) := HUW5.out.mono hc6.size
  have HP6 := Lib.hid (VR.mono _ _ _ (hc6.kept HUa5.out (fun b hb => hn1 b (.inr (HFA.out b hb).1))) HP5.out)
  have HUa6 : Hid (Under w6.heap.size Fa) := HUa5.out.mono hc6.size
  have hk6 : kp < w6.heap.size := KC6.out.lt
  obtain ⟨zs, hzs⟩ := HR6.out.bytes
  obtain ⟨B, hB1, hB2', hB3⟩ := pot_big zs hzs.le hzs.len (q4 + 1) (by omega)
  have HRB6 := Lib.hid hzs
  have HB3 := Lib.hid hB3
  clear hzs hB3
  clear hR6 hc6 K25 K35 KB5 KC5 HA5 HUW5 HP5 HUa5 HR5 HB5 hn1
  cases q0 : ((r : Int) == 0) with
  | true =>
    go_wp2_with fail
    refine (spec_l1Some (q4 + 1) g w6 HR6.out (by omega) A1 xs.length cap1 HTOK.out.pos (by have := (worldOK HTOK.out.ok).len; omega)).mono ?_
    rintro e w7 ⟨t2, q5, rfl, hR7, hq7, hc7⟩
    have hn7 : ∀ b, b < g ∨ w3.heap.size ≤ b → b ∉ [g] := fun b hb h => by rw [List.mem_singleton] at h; omega
    have K27 := Lib.hid (K26.out.same (hc7.block _ K26.out.lt (hn7 _ (.inl (by omega)))))
    have K37 := Lib.hid (K36.out.same (hc7.block _ K36.out.lt (hn7 _ (.inl (by omega)))))
    have KB7 := Lib.hid (KB6.out.same (hc7.block _ KB6.out.lt (hn7 _ (.inr (by omega)))))
    have KC7 := Lib.hid (KC6.out.same (hc7.block _ KC6.out.lt (hn7 _ (.inr (by omega)))))
    have HA7 := Lib.hid (ArrDt.mono HA6.out (hc7.kept HUW6.out (fun b hb => hn7 b (.inr (HFW.out b hb)))))
    have HUW7 : Hid (Under w7.heap.size FW) := HUW6.out.mono hc7.size
    have HP7 := Lib.hid (VR.mono _ _ _ (hc7.kept HUa6.out (fun b hb => hn7 b (.inr (HFA.out b hb).1))) HP6.out)
    have HUa7 : Hid (Under w7.heap.size Fa) := HUa6.out.mono hc7.size
    have HB7 : Hid (Below w.heap.size w w7) := HB6.out.trans (hc7.below (fun b hb => by rw [List.mem_singleton] at hb; omega) HB6.out.size)
    have HR7 := Lib.hid hR7
    have y0 : w7.cell? ⟨k, 0, none⟩ = some (.int .i64 t.d) := (KB7.out.cell 0).trans (by simp)
    have y1 : w7.cell? ⟨k, 1, none⟩ = some (.int .i64 t.i) := (KB7.out.cell 1).trans (by simp)
    have f0 := KB7.out.frozen 0
    have f1 := KB7.out.frozen 1
    have ylt := KB7.out.lt
    clear hR7 hc7 K26 K36 KB6 KC6 HA6 HUW6 HP6 HUa6 HB6 HR6 hn7
    go_wp2_with fail
    clear y0 y1 f0 f1 ylt
    obtain ⟨wb, hwb⟩ : ∃ X, X = ((w7.setCell ⟨k, 0, none⟩ (.int .i64 t2.d)).setCell ⟨k, 1, none⟩ (.int .i64 t2.i)) := ⟨_, rfl⟩
    have hfar : ∀ b, b ≠ k → wb.heap[b]? = w7.heap[b]? := fun b hb => by rw [hwb, Below.heap_setCell _ _ _ _ hb, Below.heap_setCell _ _ _ _ hb]
    have KBb : Hid (Blk wb k 36 #[.int .i64 t2.d, .int .i64 t2.i]) := by rw [hwb]; exact (KB7.out.set_ 0 _).set_ 1 _
    have hzb : wb.heap.size = w7.heap.size := by rw [hwb]; simp [World.setCell]
    have HBb : Hid (Below w.heap.size w wb) := by rw [hwb]; exact (HB7.out.setCell (by show w.heap.size ≤ k; omega) _).setCell (by show w.heap.size ≤ k; omega) _
    rw [← hwb]
    clear hwb
    have K2b := Lib.hid (K27.out.same (hfar _ (by omega)))
    have K3b := Lib.hid (K37.out.same (hfar _ (by omega)))
    have KCb := Lib.hid (KC7.out.same (hfar _ (by omega)))
    have hkW : ∀ b ∈ FW, b ≠ k := fun b hb e => by have := HKW.out b hb; omega
    have hkA : ∀ b ∈ Fa, b ≠ k := fun b hb e => by have := HKA.out b hb; omega
    have HAb := Lib.hid (ArrDt.mono HA7.out (w' := wb) (fun b hb => hfar b (hkW b hb)))
    have HUWb : Hid (Under wb.heap.size FW) := by rw [hzb]; exact HUW7.out
    have HPb := Lib.hid (VR.mono (w' := wb) _ _ _ (fun b hb => hfar b (hkA b hb)) HP7.out)
    have HUab : Hid (Under wb.heap.size Fa) := by rw [hzb]; exact HUa7.out
    have HRb : Hid (Rd wb g q5) := HR7.out.keep fun b hb => hfar b (by omega)
    obtain ⟨qb, hqb⟩ : ∃ X, X = q5 := ⟨_, rfl⟩
    rw [← hqb] at HRb
    have hqb4 : qb ≤ 3000 := by omega
    have hkb : kp < wb.heap.size := KCb.out.lt
    clear hqb hfar hkW hkA hzb K27 K37 KC7 HA7 HUW7 HP7 HUa7 HR7 HB7 KB7 q0
    go_wp2_with fail
    have HS : Hid (∀ C : World, Chg [g, w.heap.size, w.heap.size + 1] wb C → (C.cell? ⟨k, 0, none⟩ = some (.int .i64 t2.d) ∧ C.cell? ⟨k, 1, none⟩ = some (.int .i64 t2.i) ∧ C.cell? ⟨kp, 0, none⟩ = some (.int .i64 a.c) ∧ C.cell? ⟨kp, 1, none⟩ = some (.int .i64 a.n) ∧ C.cell? ⟨kp, 2, none⟩ = some (.slice pA a.ks.length pcap))) := fun C hC => ⟨(hC.cell (Nat.lt_trans hkn hkb) (by simp; omega)).trans ((KBb.out.cell 0).trans (by simp)), (hC.cell (Nat.lt_trans hkn hkb) (by simp; omega)).trans ((KBb.out.cell 1).trans (by simp)), (hC.cell hkb (by simp; omega)).trans ((KCb.out.cell 0).trans (by simp)), (hC.cell hkb (by simp; omega)).trans ((KCb.out.cell 1).trans (by simp)), (hC.cell hkb (by simp; omega)).trans ((KCb.out.cell 2).trans (by simp))⟩
    have hC0 : Chg [g, w.heap.size, w.heap.size + 1] wb wb.drew := (Chg.refl _ _).drew
    have K2d : Hid (Blk wb.drew (w.heap.size) 36 #[.int .i64 0, .int .i64 0]) := K2b.out
    have K3d : Hid (Blk wb.drew (w.heap.size + 1) 25 #[.int .i64 0, .int .i64 0, .slice none 0 0]) := K3b.out
    have HPd : Hid (VR wb.drew a [.int .i64 a.c, .int .i64 a.n, .slice pA a.ks.length pcap] Fa) := VR.drew HPb.out
    have HUd : Hid (Under wb.drew.heap.size Fa) := HUab.out
    have HRd : Hid (Rd wb.drew g qb) := HRb.out.keep (fun b hb => rfl)
    have HAd : Hid (Arr wb.drew (DtR wb.drew) xs (.slice A1 xs.length cap1) FW) := ArrDt.drew HAb.out
    have HWd : Hid (Under wb.drew.heap.size FW) := HUWb.out
    refine wp_region_B (S := fun w' => w'.cell? ⟨k, 0, none⟩ = some (.int .i64 t2.d) ∧ w'.cell? ⟨k, 1, none⟩ = some (.int .i64 t2.i) ∧ w'.cell? ⟨kp, 0, none⟩ = some (.int .i64 a.c) ∧ w'.cell? ⟨kp, 1, none⟩ = some (.int .i64 a.n) ∧ w'.cell? ⟨kp, 2, none⟩ = some (.slice pA a.ks.length pcap)) (T := fun _ => True) (d := 99) (by kernel_rfl) ?_
    obtain ⟨wd, hwd⟩ : ∃ X, X = wb.drew := ⟨_, rfl⟩
    have hzd : wb.heap.size ≤ wd.heap.size := by rw [hwd]; exact Nat.le_refl _
    rw [← hwd] at hC0 K2d K3d HPd HUd HRd HAd HWd ⊢
    clear hwd
    have hS0 := HS.out _ hC0
    have hT0 : True := trivial
    refine wpAnyB_take (i := 0) (v := ?_) rfl (by decide) (by kernel_rfl) (by kernel_rfl) (by kernel_rfl) (fun _ _ _ h => h) (Or.inl ⟨by rfl, ?hy0⟩) hS0 (fun _ => hT0) ?_
    case hy0 => (intro W hSw; (try dsimp only at hSw); (try obtain ⟨hSw0, hSw1, hSw2, hSw3, hSw4⟩ := hSw); go_simp; try with_reducible rfl)
    (try simp only [Act.put, List.getElem_toArray, List.getElem_cons_zero, List.getElem_cons_succ, List.setIfInBounds_toArray, List.set_cons_zero, List.set_cons_succ])
    refine wpAnyB_take (i := 1) (v := ?_) rfl (by decide) (by kernel_rfl) (by kernel_rfl) (by kernel_rfl) (fun _ _ _ h => h) (Or.inl ⟨by rfl, ?hy1⟩) hS0 (fun _ => hT0) ?_
    case hy1 => (intro W hSw; (try dsimp only at hSw); (try obtain ⟨hSw0, hSw1, hSw2, hSw3, hSw4⟩ := hSw); go_simp; try with_reducible rfl)
    (try simp only [Act.put, List.getElem_toArray, List.getElem_cons_zero, List.getElem_cons_succ, List.setIfInBounds_toArray, List.set_cons_zero, List.set_cons_succ])
    refine wpAnyB_take (i := 3) (v := ?_) rfl (by decide) (by kernel_rfl) (by kernel_rfl) (by kernel_rfl) (fun _ _ _ h => h) (Or.inl ⟨by rfl, ?hy3⟩) hS0 (fun _ => hT0) ?_
    case hy3 => (intro W hSw; (try dsimp only at hSw); (try obtain ⟨hSw0, hSw1, hSw2, hSw3, hSw4⟩ := hSw); go_simp; try with_reducible rfl)
    (try simp only [Act.put, List.getElem_toArray, List.getElem_cons_zero, List.getElem_cons_succ, List.setIfInBounds_toArray, List.set_cons_zero, List.set_cons_succ])
    refine wpAnyB_take (i := 4) (v := ?_) rfl (by decide) (by kernel_rfl) (by kernel_rfl) (by kernel_rfl) (fun _ _ _ h => h) (Or.inl ⟨by rfl, ?hy4⟩) hS0 (fun _ => hT0) ?_
    case hy4 => (intro W hSw; (try dsimp only at hSw); (try obtain ⟨hSw0, hSw1, hSw2, hSw3, hSw4⟩ := hSw); go_simp; try with_reducible rfl)
    (try simp only [Act.put, List.getElem_toArray, List.getElem_cons_zero, List.getElem_cons_succ, List.setIfInBounds_toArray, List.set_cons_zero, List.set_cons_succ])
    refine wpAnyB_take (i := 5) (v := ?_) rfl (by decide) (by kernel_rfl) (by kernel_rfl) (by kernel_rfl) (fun _ _ _ h => h) (Or.inl ⟨by rfl, ?hy5⟩) hS0 (fun _ => hT0) ?_
    case hy5 => (intro W hSw; (try dsimp only at hSw); (try obtain ⟨hSw0, hSw1, hSw2, hSw3, hSw4⟩ := hSw); go_simp; try with_reducible rfl)
    (try simp only [Act.put, List.getElem_toArray, List.getElem_cons_zero, List.getElem_cons_succ, List.setIfInBounds_toArray, List.set_cons_zero, List.set_cons_succ])
    refine wpAnyB_ready (rs := [2]) (by kernel_rfl) (by simp) ?_
    refine AllReadyB.cons rfl (fun K hK => ?_) AllReadyB.nil
    go_simp
    go_at_call 49
    refine (spec_l1Mutate qb g wd HRd.out (by omega) xs _ FW HAd.out HWd.out HTOK.out.pos (by have := (worldOK HTOK.out.ok).len; omega) 4 (by omega) (SmallW.of (worldOK HTOK.out.ok))).mono ?_
    rintro e C1 ⟨ys, v6, F6, q6, rfl, -, ha6, hfs6, hr6, hq6, hc1⟩
    have hC1 : Chg [g, w.heap.size, w.heap.size + 1] wb C1 := hC0.trans (hc1.mono (by simp))
    have K21 := Lib.hid (K2d.out.same (hc1.block _ K2d.out.lt (by rw [List.mem_singleton]; omega)))
    have K31 := Lib.hid (K3d.out.same (hc1.block _ K3d.out.lt (by rw [List.mem_singleton]; omega)))
    have HP1 := Lib.hid (VR.mono _ _ _ (hc1.kept HUd.out (fun b hb h => by rw [List.mem_singleton] at h; exact (HFA.out b hb).2 h)) HPd.out)
    have HU1 : Hid (Under C1.heap.size Fa) := HUd.out.mono hc1.size
    have HA1 := Lib.hid ha6
    have HR1 := Lib.hid hr6
    have HF6 : Hid (∀ b ∈ F6, wd.heap.size ≤ b ∧ b < C1.heap.size) := hfs6
    have hz1 := hc1.size
    have hwdk : w.heap.size + 2 ≤ wd.heap.size ∧ g < wd.heap.size := by have := HRd.out.lt; have := K3d.out.lt; omega
    clear ha6 hfs6 hr6 hc1 K2d K3d HPd HUd HRd HAd HWd
    (try dsimp only)
    refine hK.out _ _ (HS.out _ hC1) (fun _ => trivial) ?_
    clear hK K
    (try simp only [Act.put, List.getElem_toArray, List.getElem_cons_zero, List.getElem_cons_succ, List.setIfInBounds_toArray, List.set_cons_zero, List.set_cons_succ])
    refine wpAnyB_ready (rs := [6]) (by kernel_rfl) (by simp) ?_
    refine AllReadyB.cons rfl (fun K hK => ?_) AllReadyB.nil
    go_simp
    go_at_call 50
    obtain ⟨zs, hzs⟩ := HR1.out.bytes
    obtain ⟨B, hB1, hB2', hB3⟩ := pot_big zs hzs.le hzs.len q6 (by omega)
    refine (spec_l2Mutate_all zs B (by omega) (B + 2) a C1 q6 g hzs (by omega) (by omega) (by omega) (by omega) _ Fa HP1.out HU1.out (fun b hb => (HFA.out b hb).2)).mono ?_
    rintro e C2 ⟨b, cs2, Fb, q8, rfl, hp2, hf2, hn2, -, hl2, hq2, -, hc2⟩
    obtain ⟨kvb, rfl, hbb⟩ := (VR_iff _ _ _).1 hp2
    obtain ⟨qA, qcap, rfl, -, -⟩ := hbb.form
    have hC2 : Chg [g, w.heap.size, w.heap.size + 1] wb C2 := hC1.trans (hc2.mono (by simp))
    have K22 := Lib.hid (K21.out.same (hc2.block _ K21.out.lt (by rw [List.mem_singleton]; omega)))
    have K32 := Lib.hid (K31.out.same (hc2.block _ K31.out.lt (by rw [List.mem_singleton]; omega)))
    have HA2 := Lib.hid (ArrDt.mono HA1.out (hc2.kept (fun b hb => (HF6.out b hb).2) (fun b hb h => by rw [List.mem_singleton] at h; have := (HF6.out b hb).1; omega)))
    have HU2 : Hid (Under C2.heap.size F6) := fun b hb => Nat.lt_of_lt_of_le (HF6.out b hb).2 hc2.size
    have HPB := Lib.hid hp2
    have HUB : Hid (Under C2.heap.size Fb) := fun x hx => (hf2 x hx).1
    have HFB : Hid (∀ x ∈ Fb, w3.heap.size ≤ x ∧ x ≠ g) := fun x hx => ⟨by
      rcases (hf2 x hx).2.2 with h | h
      · exact (HFA.out x h).1
      · omega, (hf2 x hx).2.1⟩
    have HNB : Hid (nodes b ≤ 600000) := by unfold Hid; omega
    clear hp2 hf2 hc2 hbb HA1 HR1 hzs hB3
    (try dsimp only)
    refine hK.out _ _ (HS.out _ hC2) (fun _ => trivial) ?_
    clear hK K
    (try simp only [Act.put, List.getElem_toArray, List.getElem_cons_zero, List.getElem_cons_succ, List.setIfInBounds_toArray, List.set_cons_zero, List.set_cons_succ])
    refine wpAnyB_ready (rs := [7]) (by kernel_rfl) (by simp) ?_
    refine AllReadyB.cons rfl (fun K hK => ?_) AllReadyB.nil
    go_simp
    (try dsimp only)
    refine hK.out _ _ (HS.out _ hC2) (fun _ => trivial) ?_
    clear hK K
    (try simp only [Act.put, List.getElem_toArray, List.getElem_cons_zero, List.getElem_cons_succ, List.setIfInBounds_toArray, List.set_cons_zero, List.set_cons_succ])
    refine wpAnyB_ready (rs := [8]) (by kernel_rfl) (by simp) ?_
    refine AllReadyB.cons rfl (fun K hK => ?_) AllReadyB.nil
    have yy0 : C2.cell? ⟨w.heap.size, 0, none⟩ = some (.int .i64 0) := (K22.out.cell 0).trans (by simp)
    have ff0 := K22.out.frozen 0
    have yy1 : C2.cell? ⟨w.heap.size, 1, none⟩ = some (.int .i64 0) := (K22.out.cell 1).trans (by simp)
    have ff1 := K22.out.frozen 1
    have yylt := K22.out.lt
    have hC12 : Chg [g, w.heap.size, w.heap.size + 1] wb ((C2.setCell ⟨w.heap.size, 0, none⟩ (.int .i64 t2.d)).setCell ⟨w.heap.size, 1, none⟩ (.int .i64 t2.i)) := ((hC2.set (by simp)).set (by simp))
    have KK12 : Hid (Blk ((C2.setCell ⟨w.heap.size, 0, none⟩ (.int .i64 t2.d)).setCell ⟨w.heap.size, 1, none⟩ (.int .i64 t2.i)) (w.heap.size) 36 #[.int .i64 t2.d, .int .i64 t2.i]) := ((K22.out.set_ 0 _).set_ 1 _)
    have K3212 : Hid (Blk ((C2.setCell ⟨w.heap.size, 0, none⟩ (.int .i64 t2.d)).setCell ⟨w.heap.size, 1, none⟩ (.int .i64 t2.i)) (w.heap.size + 1) 25 #[.int .i64 0, .int .i64 0, .slice none 0 0]) := ((K32.out.same (Below.heap_setCell _ _ _ _ (by show w.heap.size + 1 ≠ w.heap.size; omega))).same (Below.heap_setCell _ _ _ _ (by show w.heap.size + 1 ≠ w.heap.size; omega)))
    have hz12 : (((C2.setCell ⟨w.heap.size, 0, none⟩ (.int .i64 t2.d)).setCell ⟨w.heap.size, 1, none⟩ (.int .i64 t2.i))).heap.size = C2.heap.size := by simp [World.setCell]
    have hkA12 : Kept F6 C2 ((C2.setCell ⟨w.heap.size, 0, none⟩ (.int .i64 t2.d)).setCell ⟨w.heap.size, 1, none⟩ (.int .i64 t2.i)) := fun x hx => by rw [Below.heap_setCell _ _ _ _ (by show x ≠ w.heap.size; have := HF6.out x hx; omega), Below.heap_setCell _ _ _ _ (by show x ≠ w.heap.size; have := HF6.out x hx; omega)]
    have hkB12 : Kept Fb C2 ((C2.setCell ⟨w.heap.size, 0, none⟩ (.int .i64 t2.d)).setCell ⟨w.heap.size, 1, none⟩ (.int .i64 t2.i)) := fun x hx => by rw [Below.heap_setCell _ _ _ _ (by show x ≠ w.heap.size; have := HFB.out x hx; omega), Below.heap_setCell _ _ _ _ (by show x ≠ w.heap.size; have := HFB.out x hx; omega)]
    go_simp
    refine hK.out _ _ (HS.out _ hC12) (fun _ => trivial) ?_
    clear hK K
    (try simp only [Act.put, List.getElem_toArray, List.getElem_cons_zero, List.getElem_cons_succ, List.setIfInBounds_toArray, List.set_cons_zero, List.set_cons_succ])
    clear yy0 ff0 yy1 ff1 yylt
    obtain ⟨D2, hX⟩ : ∃ X, X = ((C2.setCell ⟨w.heap.size, 0, none⟩ (.int .i64 t2.d)).setCell ⟨w.heap.size, 1, none⟩ (.int .i64 t2.i)) := ⟨_, rfl⟩
    rw [← hX] at hC12 KK12 K3212 hz12 hkA12 hkB12 ⊢
    clear hX
    refine wpAnyB_ready (rs := [9]) (by kernel_rfl) (by simp) ?_
    refine AllReadyB.cons rfl (fun K hK => ?_) AllReadyB.nil
    have yy0 : D2.cell? ⟨w.heap.size + 1, 0, none⟩ = some (.int .i64 0) := (K3212.out.cell 0).trans (by simp)
    have ff0 := K3212.out.frozen 0
    have yy1 : D2.cell? ⟨w.heap.size + 1, 1, none⟩ = some (.int .i64 0) := (K3212.out.cell 1).trans (by simp)
    have ff1 := K3212.out.frozen 1
    have yy2 : D2.cell? ⟨w.heap.size + 1, 2, none⟩ = some (.slice none 0 0) := (K3212.out.cell 2).trans (by simp)
    have ff2 := K3212.out.frozen 2
    have yylt := K3212.out.lt
    have hC13 : Chg [g, w.heap.size, w.heap.size + 1] wb (((D2.setCell ⟨w.heap.size + 1, 0, none⟩ (.int .i64 b.c)).setCell ⟨w.heap.size + 1, 1, none⟩ (.int .i64 b.n)).setCell ⟨w.heap.size + 1, 2, none⟩ (.slice qA b.ks.length qcap)) := (((hC12.set (by simp)).set (by simp)).set (by simp))
    have KK13 : Hid (Blk (((D2.setCell ⟨w.heap.size + 1, 0, none⟩ (.int .i64 b.c)).setCell ⟨w.heap.size + 1, 1, none⟩ (.int .i64 b.n)).setCell ⟨w.heap.size + 1, 2, none⟩ (.slice qA b.ks.length qcap)) (w.heap.size + 1) 25 #[.int .i64 b.c, .int .i64 b.n, .slice qA b.ks.length qcap]) := (((K3212.out.set_ 0 _).set_ 1 _).set_ 2 _)
    have KK1213 : Hid (Blk (((D2.setCell ⟨w.heap.size + 1, 0, none⟩ (.int .i64 b.c)).setCell ⟨w.heap.size + 1, 1, none⟩ (.int .i64 b.n)).setCell ⟨w.heap.size + 1, 2, none⟩ (.slice qA b.ks.length qcap)) (w.heap.size) 36 #[.int .i64 t2.d, .int .i64 t2.i]) := (((KK12.out.same (Below.heap_setCell _ _ _ _ (by show w.heap.size ≠ w.heap.size + 1; omega))).same (Below.heap_setCell _ _ _ _ (by show w.heap.size ≠ w.heap.size + 1; omega))).same (Below.heap_setCell _ _ _ _ (by show w.heap.size ≠ w.heap.size + 1; omega)))
    have hz13 : ((((D2.setCell ⟨w.heap.size + 1, 0, none⟩ (.int .i64 b.c)).setCell ⟨w.heap.size + 1, 1, none⟩ (.int .i64 b.n)).setCell ⟨w.heap.size + 1, 2, none⟩ (.slice qA b.ks.length qcap))).heap.size = D2.heap.size := by simp [World.setCell]
    have hkA13 : Kept F6 D2 (((D2.setCell ⟨w.heap.size + 1, 0, none⟩ (.int .i64 b.c)).setCell ⟨w.heap.size + 1, 1, none⟩ (.int .i64 b.n)).setCell ⟨w.heap.size + 1, 2, none⟩ (.slice qA b.ks.length qcap)) := fun x hx => by rw [Below.heap_setCell _ _ _ _ (by show x ≠ w.heap.size + 1; have := HF6.out x hx; omega), Below.heap_setCell _ _ _ _ (by show x ≠ w.heap.size + 1; have := HF6.out x hx; omega), Below.heap_setCell _ _ _ _ (by show x ≠ w.heap.size + 1; have := HF6.out x hx; omega)]
    have hkB13 : Kept Fb D2 (((D2.setCell ⟨w.heap.size + 1, 0, none⟩ (.int .i64 b.c)).setCell ⟨w.heap.size + 1, 1, none⟩ (.int .i64 b.n)).setCell ⟨w.heap.size + 1, 2, none⟩ (.slice qA b.ks.length qcap)) := fun x hx => by rw [Below.heap_setCell _ _ _ _ (by show x ≠ w.heap.size + 1; have := HFB.out x hx; omega), Below.heap_setCell _ _ _ _ (by show x ≠ w.heap.size + 1; have := HFB.out x hx; omega), Below.heap_setCell _ _ _ _ (by show x ≠ w.heap.size + 1; have := HFB.out x hx; omega)]
    go_simp
    refine hK.out _ _ (HS.out _ hC13) (fun _ => trivial) ?_
    clear hK K
    (try simp only [Act.put, List.getElem_toArray, List.getElem_cons_zero, List.getElem_cons_succ, List.setIfInBounds_toArray, List.set_cons_zero, List.set_cons_succ])
    clear yy0 ff0 yy1 ff1 yy2 ff2 yylt
    obtain ⟨D3, hX⟩ : ∃ X, X = (((D2.setCell ⟨w.heap.size + 1, 0, none⟩ (.int .i64 b.c)).setCell ⟨w.heap.size + 1, 1, none⟩ (.int .i64 b.n)).setCell ⟨w.heap.size + 1, 2, none⟩ (.slice qA b.ks.length qcap)) := ⟨_, rfl⟩
    rw [← hX] at hC13 KK13 KK1213 hz13 hkA13 hkB13 ⊢
    clear hX
    refine wpAnyB_end (by kernel_rfl) ?_
    clear hS0 hT0
    have HFin : Hid (DrewWTV w (.returned (.tuple #[v6, .agg #[.int .i64 t2.d, .int .i64 t2.i], .agg #[.int .i64 b.c, .int .i64 b.n, .slice qA b.ks.length qcap]])) D3) := by
      have hz : D3.heap.size = C2.heap.size := by rw [hz13, hz12]
      refine ⟨ys, v6, F6, t2, b, [.int .i64 b.c, .int .i64 b.n, .slice qA b.ks.length qcap], Fb, rfl, HBb.out.trans (hC13.below (by intro x hx; simp at hx; omega) HBb.out.size), ArrDt.mono (ArrDt.mono HA2.out hkA12) hkA13, ?_, VR.mono _ _ _ hkB13 (VR.mono _ _ _ hkB12 HPB.out), ?_, HNB.out⟩
      · intro x hx; rw [hz]; exact ⟨by have := (HF6.out x hx).1; omega, HU2.out x hx⟩
      · intro x hx; rw [hz]; exact ⟨by have := (HFB.out x hx).1; omega, HUB.out x hx⟩
    clear hkA12 hkA13 hkB12 hkB13 hC12 hC13 hC2 hC1 hC0
    go_wp2
    refine bodyPost_ret (results_tmp_cell_cell rfl _ _ (w.heap.size) (w.heap.size + 1) 36 25 #[.int .i64 t2.d, .int .i64 t2.i] #[.int .i64 b.c, .int .i64 b.n, .slice qA b.ks.length qcap] (0, 0) (0, 0) _ _ rfl KK1213.out Try.underlying36 rfl rfl rfl KK13.out Try.underlying25 rfl rfl) rfl ?_
    exact HFin.out
  | false =>
    go_wp2_with fail
    obtain ⟨wb, hwb⟩ : ∃ X, X = w6 := ⟨_, rfl⟩
    obtain ⟨qb, hqb⟩ : ∃ X, X = q4 + 1 := ⟨_, rfl⟩
    have hqb4 : qb ≤ 3000 := by omega
    rw [← hwb] at K26 K36 KB6 KC6 HA6 HUW6 HP6 HUa6 HB6 HR6 hk6 ⊢
    rw [← hqb] at HR6
    clear hwb hqb
    have K2b := K26
    have K3b := K36
    have KBb := KB6
    have KCb := KC6
    have HAb := HA6
    have HUWb := HUW6
    have HPb := HP6
    have HUab := HUa6
    have HRb := HR6
    have HBb := HB6
    have hkb := hk6
    clear K26 K36 KB6 KC6 HA6 HUW6 HP6 HUa6 HB6 HR6 hk6 q0
    have HS : Hid (∀ C : World, Chg [g, w.heap.size, w.heap.size + 1] wb C → (C.cell? ⟨k, 0, none⟩ = some (.int .i64 t.d) ∧ C.cell? ⟨k, 1, none⟩ = some (.int .i64 t.i) ∧ C.cell? ⟨kp, 0, none⟩ = some (.int .i64 a.c) ∧ C.cell? ⟨kp, 1, none⟩ = some (.int .i64 a.n) ∧ C.cell? ⟨kp, 2, none⟩ = some (.slice pA a.ks.length pcap))) := fun C hC => ⟨(hC.cell (Nat.lt_trans hkn hkb) (by simp; omega)).trans ((KBb.out.cell 0).trans (by simp)), (hC.cell (Nat.lt_trans hkn hkb) (by simp; omega)).trans ((KBb.out.cell 1).trans (by simp)), (hC.cell hkb (by simp; omega)).trans ((KCb.out.cell 0).trans (by simp)), (hC.cell hkb (by simp; omega)).trans ((KCb.out.cell 1).trans (by simp)), (hC.cell hkb (by simp; omega)).trans ((KCb.out.cell 2).trans (by simp))⟩
    have hC0 : Chg [g, w.heap.size, w.heap.size + 1] wb wb.drew := (Chg.refl _ _).drew
    have K2d : Hid (Blk wb.drew (w.heap.size) 36 #[.int .i64 0, .int .i64 0]) := K2b.out
    have K3d : Hid (Blk wb.drew (w.heap.size + 1) 25 #[.int .i64 0, .int .i64 0, .slice none 0 0]) := K3b.out
    have HPd : Hid (VR wb.drew a [.int .i64 a.c, .int .i64 a.n, .slice pA a.ks.length pcap] Fa) := VR.drew HPb.out
    have HUd : Hid (Under wb.drew.heap.size Fa) := HUab.out
    have HRd : Hid (Rd wb.drew g qb) := HRb.out.keep (fun b hb => rfl)
    have HAd : Hid (Arr wb.drew (DtR wb.drew) xs (.slice A1 xs.length cap1) FW) := ArrDt.drew HAb.out
    have HWd : Hid (Under wb.drew.heap.size FW) := HUWb.out
    refine wp_region_B (S := fun w' => w'.cell? ⟨k, 0, none⟩ = some (.int .i64 t.d) ∧ w'.cell? ⟨k, 1, none⟩ = some (.int .i64 t.i) ∧ w'.cell? ⟨kp, 0, none⟩ = some (.int .i64 a.c) ∧ w'.cell? ⟨kp, 1, none⟩ = some (.int .i64 a.n) ∧ w'.cell? ⟨kp, 2, none⟩ = some (.slice pA a.ks.length pcap)) (T := fun _ => True) (d := 99) (by kernel_rfl) ?_
    obtain ⟨wd, hwd⟩ : ∃ X, X = wb.drew := ⟨_, rfl⟩
    have hzd : wb.heap.size ≤ wd.heap.size := by rw [hwd]; exact Nat.le_refl _
    rw [← hwd] at hC0 K2d K3d HPd HUd HRd HAd HWd ⊢
    clear hwd
    have hS0 := HS.out _ hC0
    have hT0 : True := trivial
    refine wpAnyB_take (i := 0) (v := ?_) rfl (by decide) (by kernel_rfl) (by kernel_rfl) (by kernel_rfl) (fun _ _ _ h => h) (Or.inl ⟨by rfl, ?hy0⟩) hS0 (fun _ => hT0) ?_
    case hy0 => (intro W hSw; (try dsimp only at hSw); (try obtain ⟨hSw0, hSw1, hSw2, hSw3, hSw4⟩ := hSw); go_simp; try with_reducible rfl)
    (try simp only [Act.put, List.getElem_toArray, List.getElem_cons_zero, List.getElem_cons_succ, List.setIfInBounds_toArray, List.set_cons_zero, List.set_cons_succ])
    refine wpAnyB_take (i := 1) (v := ?_) rfl (by decide) (by kernel_rfl) (by kernel_rfl) (by kernel_rfl) (fun _ _ _ h => h) (Or.inl ⟨by rfl, ?hy1⟩) hS0 (fun _ => hT0) ?_
    case hy1 => (intro W hSw; (try dsimp only at hSw); (try obtain ⟨hSw0, hSw1, hSw2, hSw3, hSw4⟩ := hSw); go_simp; try with_reducible rfl)
    (try simp only [Act.put, List.getElem_toArray, List.getElem_cons_zero, List.getElem_cons_succ, List.setIfInBounds_toArray, List.set_cons_zero, List.set_cons_succ])
    refine wpAnyB_take (i := 3) (v := ?_) rfl (by decide) (by kernel_rfl) (by kernel_rfl) (by kernel_rfl) (fun _ _ _ h => h) (Or.inl ⟨by rfl, ?hy3⟩) hS0 (fun _ => hT0) ?_
    case hy3 => (intro W hSw; (try dsimp only at hSw); (try obtain ⟨hSw0, hSw1, hSw2, hSw3, hSw4⟩ := hSw); go_simp; try with_reducible rfl)
    (try simp only [Act.put, List.getElem_toArray, List.getElem_cons_zero, List.getElem_cons_succ, List.setIfInBounds_toArray, List.set_cons_zero, List.set_cons_succ])
    refine wpAnyB_take (i := 4) (v := ?_) rfl (by decide) (by kernel_rfl) (by kernel_rfl) (by kernel_rfl) (fun _ _ _ h => h) (Or.inl ⟨by rfl, ?hy4⟩) hS0 (fun _ => hT0) ?_
    case hy4 => (intro W hSw; (try dsimp only at hSw); (try obtain ⟨hSw0, hSw1, hSw2, hSw3, hSw4⟩ := hSw); go_simp; try with_reducible rfl)
    (try simp only [Act.put, List.getElem_toArray, List.getElem_cons_zero, List.getElem_cons_succ, List.setIfInBounds_toArray, List.set_cons_zero, List.set_cons_succ])
    refine wpAnyB_take (i := 5) (v := ?_) rfl (by decide) (by kernel_rfl) (by kernel_rfl) (by kernel_rfl) (fun _ _ _ h => h) (Or.inl ⟨by rfl, ?hy5⟩) hS0 (fun _ => hT0) ?_
    case hy5 => (intro W hSw; (try dsimp only at hSw); (try obtain ⟨hSw0, hSw1, hSw2, hSw3, hSw4⟩ := hSw); go_simp; try with_reducible rfl)
    (try simp only [Act.put, List.getElem_toArray, List.getElem_cons_zero, List.getElem_cons_succ, List.setIfInBounds_toArray, List.set_cons_zero, List.set_cons_succ])
    refine wpAnyB_ready (rs := [2]) (by kernel_rfl) (by simp) ?_
    refine AllReadyB.cons rfl (fun K hK => ?_) AllReadyB.nil
    go_simp
    go_at_call 49
    refine (spec_l1Mutate qb g wd HRd.out (by omega) xs _ FW HAd.out HWd.out HTOK.out.pos (by have := (worldOK HTOK.out.ok).len; omega) 4 (by omega) (SmallW.of (worldOK HTOK.out.ok))).mono ?_
    rintro e C1 ⟨ys, v6, F6, q6, rfl, -, ha6, hfs6, hr6, hq6, hc1⟩
    have hC1 : Chg [g, w.heap.size, w.heap.size + 1] wb C1 := hC0.trans (hc1.mono (by simp))
    have K21 := Lib.hid (K2d.out.same (hc1.block _ K2d.out.lt (by rw [List.mem_singleton]; omega)))
    have K31 := Lib.hid (K3d.out.same (hc1.block _ K3d.out.lt (by rw [List.mem_singleton]; omega)))
    have HP1 := Lib.hid (VR.mono _ _ _ (hc1.kept HUd.out (fun b hb h => by rw [List.mem_singleton] at h; exact (HFA.out b hb).2 h)) HPd.out)
    have HU1 : Hid (Under C1.heap.size Fa) := HUd.out.mono hc1.size
    have HA1 := Lib.hid ha6
    have HR1 := Lib.hid hr6
    have HF6 : Hid (∀ b ∈ F6, wd.heap.size ≤ b ∧ b < C1.heap.size) := hfs6
    have hz1 := hc1.size
    have hwdk : w.heap.size + 2 ≤ wd.heap.size ∧ g < wd.heap.size := by have := HRd.out.lt; have := K3d.out.lt; omega
    clear ha6 hfs6 hr6 hc1 K2d K3d HPd HUd HRd HAd HWd
    (try dsimp only)
    refine hK.out _ _ (HS.out _ hC1) (fun _ => trivial) ?_
    clear hK K
    (try simp only [Act.put, List.getElem_toArray, List.getElem_cons_zero, List.getElem_cons_succ, List.setIfInBounds_toArray, List.set_cons_zero, List.set_cons_succ])
    refine wpAnyB_ready (rs := [6]) (by kernel_rfl) (by simp) ?_
    refine AllReadyB.cons rfl (fun K hK => ?_) AllReadyB.nil
    go_simp
    go_at_call 50
    obtain ⟨zs, hzs⟩ := HR1.out.bytes
    obtain ⟨B, hB1, hB2', hB3⟩ := pot_big zs hzs.le hzs.len q6 (by omega)
    refine (spec_l2Mutate_all zs B (by omega) (B + 2) a C1 q6 g hzs (by omega) (by omega) (by omega) (by omega) _ Fa HP1.out HU1.out (fun b hb => (HFA.out b hb).2)).mono ?_
    rintro e C2 ⟨b, cs2, Fb, q8, rfl, hp2, hf2, hn2, -, hl2, hq2, -, hc2⟩
    obtain ⟨kvb, rfl, hbb⟩ := (VR_iff _ _ _).1 hp2
    obtain ⟨qA, qcap, rfl, -, -⟩ := hbb.form
    have hC2 : Chg [g, w.heap.size, w.heap.size + 1] wb C2 := hC1.trans (hc2.mono (by simp))
    have K22 := Lib.hid (K21.out.same (hc2.block _ K21.out.lt (by rw [List.mem_singleton]; omega)))
    have K32 := Lib.hid (K31.out.same (hc2.block _ K31.out.lt (by rw [List.mem_singleton]; omega)))
    have HA2 := Lib.hid (ArrDt.mono HA1.out (hc2.kept (fun b hb => (HF6.out b hb).2) (fun b hb h => by rw [List.mem_singleton] at h; have := (HF6.out b hb).1; omega)))
    have HU2 : Hid (Under C2.heap.size F6) := fun b hb => Nat.lt_of_lt_of_le (HF6.out b hb).2 hc2.size
    have HPB := Lib.hid hp2
    have HUB : Hid (Under C2.heap.size Fb) := fun x hx => (hf2 x hx).1
    have HFB : Hid (∀ x ∈ Fb, w3.heap.size ≤ x ∧ x ≠ g) := fun x hx => ⟨by
      rcases (hf2 x hx).2.2 with h | h
      · exact (HFA.out x h).1
      · omega, (hf2 x hx).2.1⟩
    have HNB : Hid (nodes b ≤ 600000) := by unfold Hid; omega
    clear hp2 hf2 hc2 hbb HA1 HR1 hzs hB3
    (try dsimp only)
    refine hK.out _ _ (HS.out _ hC2) (fun _ => trivial) ?_
    clear hK K
    (try simp only [Act.put, List.getElem_toArray, List.getElem_cons_zero, List.getElem_cons_succ, List.setIfInBounds_toArray, List.set_cons_zero, List.set_cons_succ])
    refine wpAnyB_ready (rs := [7]) (by kernel_rfl) (by simp) ?_
    refine AllReadyB.cons rfl (fun K hK => ?_) AllReadyB.nil
    go_simp
    (try dsimp only)
    refine hK.out _ _ (HS.out _ hC2) (fun _ => trivial) ?_
    clear hK K
    (try simp only [Act.put, List.getElem_toArray, List.getElem_cons_zero, List.getElem_cons_succ, List.setIfInBounds_toArray, List.set_cons_zero, List.set_cons_succ])
    refine wpAnyB_ready (rs := [8]) (by kernel_rfl) (by simp) ?_
    refine AllReadyB.cons rfl (fun K hK => ?_) AllReadyB.nil
    have yy0 : C2.cell? ⟨w.heap.size, 0, none⟩ = some (.int .i64 0) := (K22.out.cell 0).trans (by simp)
    have ff0 := K22.out.frozen 0
    have yy1 : C2.cell? ⟨w.heap.size, 1, none⟩ = some (.int .i64 0) := (K22.out.cell 1).trans (by simp)
    have ff1 := K22.out.frozen 1
    have yylt := K22.out.lt
    have hC12 : Chg [g, w.heap.size, w.heap.size + 1] wb ((C2.setCell ⟨w.heap.size, 0, none⟩ (.int .i64 t.d)).setCell ⟨w.heap.size, 1, none⟩ (.int .i64 t.i)) := ((hC2.set (by simp)).set (by simp))
    have KK12 : Hid (Blk ((C2.setCell ⟨w.heap.size, 0, none⟩ (.int .i64 t.d)).setCell ⟨w.heap.size, 1, none⟩ (.int .i64 t.i)) (w.heap.size) 36 #[.int .i64 t.d, .int .i64 t.i]) := ((K22.out.set_ 0 _).set_ 1 _)
    have K3212 : Hid (Blk ((C2.setCell ⟨w.heap.size, 0, none⟩ (.int .i64 t.d)).setCell ⟨w.heap.size, 1, none⟩ (.int .i64 t.i)) (w.heap.size + 1) 25 #[.int .i64 0, .int .i64 0, .slice none 0 0]) := ((K32.out.same (Below.heap_setCell _ _ _ _ (by show w.heap.size + 1 ≠ w.heap.size; omega))).same (Below.heap_setCell _ _ _ _ (by show w.heap.size + 1 ≠ w.heap.size; omega)))
    have hz12 : (((C2.setCell ⟨w.heap.size, 0, none⟩ (.int .i64 t.d)).setCell ⟨w.heap.size, 1, none⟩ (.int .i64 t.i))).heap.size = C2.heap.size := by simp [World.setCell]
    have hkA12 : Kept F6 C2 ((C2.setCell ⟨w.heap.size, 0, none⟩ (.int .i64 t.d)).setCell ⟨w.heap.size, 1, none⟩ (.int .i64 t.i)) := fun x hx => by rw [Below.heap_setCell _ _ _ _ (by show x ≠ w.heap.size; have := HF6.out x hx; omega), Below.heap_setCell _ _ _ _ (by show x ≠ w.heap.size; have := HF6.out x hx; omega)]
    have hkB12 : Kept Fb C2 ((C2.setCell ⟨w.heap.size, 0, none⟩ (.int .i64 t.d)).setCell ⟨w.heap.size, 1, none⟩ (.int .i64 t.i)) := fun x hx => by rw [Below.heap_setCell _ _ _ _ (by show x ≠ w.heap.size; have := HFB.out x hx; omega), Below.heap_setCell _ _ _ _ (by show x ≠ w.heap.size; have := HFB.out x hx; omega)]
    go_simp
    refine hK.out _ _ (HS.out _ hC12) (fun _ => trivial) ?_
    clear hK K
    (try simp only [Act.put, List.getElem_toArray, List.getElem_cons_zero, List.getElem_cons_succ, List.setIfInBounds_toArray, List.set_cons_zero, List.set_cons_succ])
    clear yy0 ff0 yy1 ff1 yylt
    obtain ⟨D2, hX⟩ : ∃ X, X = ((C2.setCell ⟨w.heap.size, 0, none⟩ (.int .i64 t.d)).setCell ⟨w.heap.size, 1, none⟩ (.int .i64 t.i)) := ⟨_, rfl⟩
    rw [← hX] at hC12 KK12 K3212 hz12 hkA12 hkB12 ⊢
    clear hX
    refine wpAnyB_ready (rs := [9]) (by kernel_rfl) (by simp) ?_
    refine AllReadyB.cons rfl (fun K hK => ?_) AllReadyB.nil
    have yy0 : D2.cell? ⟨w.heap.size + 1, 0, none⟩ = some (.int .i64 0) := (K3212.out.cell 0).trans (by simp)
    have ff0 := K3212.out.frozen 0
    have yy1 : D2.cell? ⟨w.heap.size + 1, 1, none⟩ = some (.int .i64 0) := (K3212.out.cell 1).trans (by simp)
    have ff1 := K3212.out.frozen 1
    have yy2 : D2.cell? ⟨w.heap.size + 1, 2, none⟩ = some (.slice none 0 0) := (K3212.out.cell 2).trans (by simp)
    have ff2 := K3212.out.frozen 2
    have yylt := K3212.out.lt
    have hC13 : Chg [g, w.heap.size, w.heap.size + 1] wb (((D2.setCell ⟨w.heap.size + 1, 0, none⟩ (.int .i64 b.c)).setCell ⟨w.heap.size + 1, 1, none⟩ (.int .i64 b.n)).setCell ⟨w.heap.size + 1, 2, none⟩ (.slice qA b.ks.length qcap)) := (((hC12.set (by simp)).set (by simp)).set (by simp))
    have KK13 : Hid (Blk (((D2.setCell ⟨w.heap.size + 1, 0, none⟩ (.int .i64 b.c)).setCell ⟨w.heap.size + 1, 1, none⟩ (.int .i64 b.n)).setCell ⟨w.heap.size + 1, 2, none⟩ (.slice qA b.ks.length qcap)) (w.heap.size + 1) 25 #[.int .i64 b.c, .int .i64 b.n, .slice qA b.ks.length qcap]) := (((K3212.out.set_ 0 _).set_ 1 _).set_ 2 _)
    have KK1213 : Hid (Blk (((D2.setCell ⟨w.heap.size + 1, 0, none⟩ (.int .i64 b.c)).setCell ⟨w.heap.size + 1, 1, none⟩ (.int .i64 b.n)).setCell ⟨w.heap.size + 1, 2, none⟩ (.slice qA b.ks.length qcap)) (w.heap.size) 36 #[.int .i64 t.d, .int .i64 t.i]) := (((KK12.out.same (Below.heap_setCell _ _ _ _ (by show w.heap.size ≠ w.heap.size + 1; omega))).same (Below.heap_setCell _ _ _ _ (by show w.heap.size ≠ w.heap.size + 1; omega))).same (Below.heap_setCell _ _ _ _ (by show w.heap.size ≠ w.heap.size + 1; omega)))
    have hz13 : ((((D2.setCell ⟨w.heap.size + 1, 0, none⟩ (.int .i64 b.c)).setCell ⟨w.heap.size + 1, 1, none⟩ (.int .i64 b.n)).setCell ⟨w.heap.size + 1, 2, none⟩ (.slice qA b.ks.length qcap))).heap.size = D2.heap.size := by simp [World.setCell]
    have hkA13 : Kept F6 D2 (((D2.setCell ⟨w.heap.size + 1, 0, none⟩ (.int .i64 b.c)).setCell ⟨w.heap.size + 1, 1, none⟩ (.int .i64 b.n)).setCell ⟨w.heap.size + 1, 2, none⟩ (.slice qA b.ks.length qcap)) := fun x hx => by rw [Below.heap_setCell _ _ _ _ (by show x ≠ w.heap.size + 1; have := HF6.out x hx; omega), Below.heap_setCell _ _ _ _ (by show x ≠ w.heap.size + 1; have := HF6.out x hx; omega), Below.heap_setCell _ _ _ _ (by show x ≠ w.heap.size + 1; have := HF6.out x hx; omega)]
    have hkB13 : Kept Fb D2 (((D2.setCell ⟨w.heap.size + 1, 0, none⟩ (.int .i64 b.c)).setCell ⟨w.heap.size + 1, 1, none⟩ (.int .i64 b.n)).setCell ⟨w.heap.size + 1, 2, none⟩ (.slice qA b.ks.length qcap)) := fun x hx => by rw [Below.heap_setCell _ _ _ _ (by show x ≠ w.heap.size + 1; have := HFB.out x hx; omega), Below.heap_setCell _ _ _ _ (by show x ≠ w.heap.size + 1; have := HFB.out x hx; omega), Below.heap_setCell _ _ _ _ (by show x ≠ w.heap.size + 1; have := HFB.out x hx; omega)]
    go_simp
    refine hK.out _ _ (HS.out _ hC13) (fun _ => trivial) ?_
    clear hK K
    (try simp only [Act.put, List.getElem_toArray, List.getElem_cons_zero, List.getElem_cons_succ, List.setIfInBounds_toArray, List.set_cons_zero, List.set_cons_succ])
    clear yy0 ff0 yy1 ff1 yy2 ff2 yylt
    obtain ⟨D3, hX⟩ : ∃ X, X = (((D2.setCell ⟨w.heap.size + 1, 0, none⟩ (.int .i64 b.c)).setCell ⟨w.heap.size + 1, 1, none⟩ (.int .i64 b.n)).setCell ⟨w.heap.size + 1, 2, none⟩ (.slice qA b.ks.length qcap)) := ⟨_, rfl⟩
    rw [← hX] at hC13 KK13 KK1213 hz13 hkA13 hkB13 ⊢
    clear hX
    refine wpAnyB_end (by kernel_rfl) ?_
    clear hS0 hT0
    have HFin : Hid (DrewWTV w (.returned (.tuple #[v6, .agg #[.int .i64 t.d, .int .i64 t.i], .agg #[.int .i64 b.c, .int .i64 b.n, .slice qA b.ks.length qcap]])) D3) := by
      have hz : D3.heap.size = C2.heap.size := by rw [hz13, hz12]
      refine ⟨ys, v6, F6, t, b, [.int .i64 b.c, .int .i64 b.n, .slice qA b.ks.length qcap], Fb, rfl, HBb.out.trans (hC13.below (by intro x hx; simp at hx; omega) HBb.out.size), ArrDt.mono (ArrDt.mono HA2.out hkA12) hkA13, ?_, VR.mono _ _ _ hkB13 (VR.mono _ _ _ hkB12 HPB.out), ?_, HNB.out⟩
      · intro x hx; rw [hz]; exact ⟨by have := (HF6.out x hx).1; omega, HU2.out x hx⟩
      · intro x hx; rw [hz]; exact ⟨by have := (HFB.out x hx).1; omega, HUB.out x hx⟩
    clear hkA12 hkA13 hkB12 hkB13 hC12 hC13 hC2 hC1 hC0
    go_wp2
    refine bodyPost_ret (results_tmp_cell_cell rfl _ _ (w.heap.size) (w.heap.size + 1) 36 25 #[.int .i64 t.d, .int .i64 t.i] #[.int .i64 b.c, .int .i64 b.n, .slice qA b.ks.length qcap] (0, 0) (0, 0) _ _ rfl KK1213.out Try.underlying36 rfl rfl rfl KK13.out Try.underlying25 rfl rfl) rfl ?_
    exact HFin.out
end Go.Proofs.Ytgckkiencmickaa

namespace Go.Proofs.Ytgckkiencmickaa
open Go.RowKit

/-- a value -/
def DrewV1 (w : World) (e : Ending) (w' : World) : Prop := ∃ (a : V) (cs : List Value) (F : List Nat), e = .returned (.agg cs.toArray) ∧ Below w.heap.size w w' ∧ VR w' a cs F ∧ Fresh w w' F ∧ nodes a ≤ 600000
set_option maxRecDepth 100000 in
set_option maxHeartbeats 1600000 in
theorem spec_DrawDepthOf (bs : List Int) (w : World) (v : Value) (F : List Nat) (hx : Arr w (ByR w) bs v F) (hf : Under w.heap.size F) :
    Calls Try.prog 10 #[v] w (DrewV1 w) := by
  have hB1 : Below w.heap.size w (w.alloc (.cells #[.int .i64 0, .int .i64 0, .slice none 0 0] 25)) := (Below.refl _ _).alloc (Nat.le_refl _) _
  have K1 : Hid (Blk (w.alloc (.cells #[.int .i64 0, .int .i64 0, .slice none 0 0] 25)) w.heap.size 25 #[.int .i64 0, .int .i64 0, .slice none 0 0]) := Blk.new w _ _
  have HX : Hid (Arr (w.alloc (.cells #[.int .i64 0, .int .i64 0, .slice none 0 0] 25)) (ByR (w.alloc (.cells #[.int .i64 0, .int .i64 0, .slice none 0 0] 25))) bs v F) := ArrBy.mono hx (.of_below hB1 hf)
  have HU : Hid (Under ((w.alloc (.cells #[.int .i64 0, .int .i64 0, .slice none 0 0] 25))).heap.size F) := hf.mono hB1.size
  have hs1 : ((w.alloc (.cells #[.int .i64 0, .int .i64 0, .slice none 0 0] 25))).heap.size = w.heap.size + 1 := by simp
  clear hx hf
  go_enter Try.func10, Try.ntmps10
  go_wp2_with fail
  obtain ⟨w1, hw1⟩ : ∃ X, X = (w.alloc (.cells #[.int .i64 0, .int .i64 0, .slice none 0 0] 25)) := ⟨_, rfl⟩
  rw [← hw1] at hB1 K1 HX HU hs1 ⊢
  clear hw1
  refine (spec_DrawValueValid bs w1 v F HX.out HU.out).mono ?_
  rintro e w3 ⟨xs, v4, FW, t, a, csa, Fa, rfl, hb3, -, -, hp3, hf3, hn3⟩
  obtain ⟨kva, rfl, haa⟩ := (VR_iff _ _ _).1 hp3
  obtain ⟨pA, pcap, rfl, -, -⟩ := haa.form
  have K3 : Hid (Blk w3 w.heap.size 25 #[.int .i64 0, .int .i64 0, .slice none 0 0]) := K1.out.same (hb3.block _ K1.out.lt)
  have hb5 : Below w3.heap.size w3 ((w3.alloc (.cells #[.int .i64 t.d, .int .i64 t.i] 36)).alloc (.cells #[.int .i64 a.c, .int .i64 a.n, .slice pA a.ks.length pcap] 25)) := ((Below.refl _ _).alloc (Nat.le_refl _) _).alloc (by simp) _
  have K5 : Hid (Blk ((w3.alloc (.cells #[.int .i64 t.d, .int .i64 t.i] 36)).alloc (.cells #[.int .i64 a.c, .int .i64 a.n, .slice pA a.ks.length pcap] 25)) w.heap.size 25 #[.int .i64 0, .int .i64 0, .slice none 0 0]) := K3.out.same (hb5.block _ K3.out.lt)
  have HP5 : Hid (VR ((w3.alloc (.cells #[.int .i64 t.d, .int .i64 t.i] 36)).alloc (.cells #[.int .i64 a.c, .int .i64 a.n, .slice pA a.ks.length pcap] 25)) a [.int .i64 a.c, .int .i64 a.n, .slice pA a.ks.length pcap] Fa) := VR.below hp3 hb5 hf3.under
  have hz5 := hb5.size
  have hz3 := hb3.size
  have HF5 : Hid (∀ b ∈ Fa, w.heap.size < b ∧ b < (((w3.alloc (.cells #[.int .i64 t.d, .int .i64 t.i] 36)).alloc (.cells #[.int .i64 a.c, .int .i64 a.n, .slice pA a.ks.length pcap] 25))).heap.size) := fun b hb => ⟨by have := (hf3 b hb).1; omega, Nat.lt_of_lt_of_le (hf3 b hb).2 hz5⟩
  have HB5 : Hid (Below w.heap.size w ((w3.alloc (.cells #[.int .i64 t.d, .int .i64 t.i] 36)).alloc (.cells #[.int .i64 a.c, .int .i64 a.n, .slice pA a.ks.length pcap] 25))) := (hB1.trans (hb3.mono hB1.size)).trans (hb5.mono (by omega))
  have HN := Lib.hid hn3
  have r0 : ((w3.alloc (.cells #[.int .i64 t.d, .int .i64 t.i] 36)).alloc (.cells #[.int .i64 a.c, .int .i64 a.n, .slice pA a.ks.length pcap] 25)).cell? ⟨w.heap.size, 0, none⟩ = some (.int .i64 0) := (K5.out.cell 0).trans (by simp)
  have rf0 := K5.out.frozen 0
  have r1 : ((w3.alloc (.cells #[.int .i64 t.d, .int .i64 t.i] 36)).alloc (.cells #[.int .i64 a.c, .int .i64 a.n, .slice pA a.ks.length pcap] 25)).cell? ⟨w.heap.size, 1, none⟩ = some (.int .i64 0) := (K5.out.cell 1).trans (by simp)
  have rf1 := K5.out.frozen 1
  have r2 : ((w3.alloc (.cells #[.int .i64 t.d, .int .i64 t.i] 36)).alloc (.cells #[.int .i64 a.c, .int .i64 a.n, .slice pA a.ks.length pcap] 25)).cell? ⟨w.heap.size, 2, none⟩ = some (.slice none 0 0) := (K5.out.cell 2).trans (by simp)
  have rf2 := K5.out.frozen 2
  have rlt := K5.out.lt
  clear hb3 hp3 hf3 haa hb5 hn3
  go_wp2
  clear r0 rf0 r1 rf1 r2 rf2 rlt
  refine bodyPost_ret (results_cell_row rfl _ _ w.heap.size 25 #[.int .i64 a.c, .int .i64 a.n, .slice pA a.ks.length pcap] (0, 0) _ rfl (K5.out.three _ _ _) Try.underlying25 rfl rfl) rfl ?_
  have hkp : Kept Fa ((w3.alloc (.cells #[.int .i64 t.d, .int .i64 t.i] 36)).alloc (.cells #[.int .i64 a.c, .int .i64 a.n, .slice pA a.ks.length pcap] 25)) (((((w3.alloc (.cells #[.int .i64 t.d, .int .i64 t.i] 36)).alloc (.cells #[.int .i64 a.c, .int .i64 a.n, .slice pA a.ks.length pcap] 25)).setCell ⟨w.heap.size, 0, none⟩ (.int .i64 a.c)).setCell ⟨w.heap.size, 1, none⟩ (.int .i64 a.n)).setCell ⟨w.heap.size, 2, none⟩ (.slice pA a.ks.length pcap)) := kept_three (fun b hb => by have := (HF5.out b hb).1; omega) _ _ _
  refine ⟨a, [.int .i64 a.c, .int .i64 a.n, .slice pA a.ks.length pcap], Fa, rfl, below_three HB5.out (Nat.le_refl _) _ _ _, VR.mono _ _ _ hkp HP5.out, fun b hb => ⟨by have := (HF5.out b hb).1; omega, by rw [size_three]; exact (HF5.out b hb).2⟩, HN.out⟩
end Go.Proofs.Ytgckkiencmickaa

namespace Go.Proofs.Ytgckkiencmickaa
open Go.RowKit

mutual
def V.depth : V → Nat
  | ⟨_, _, ks⟩ => V.depths ks + 1
def V.depths : List V → Nat
  | [] => 0
  | k :: ks => max (V.depth k) (V.depths ks)
end
theorem V.depths_snoc (l : List V) (x : V) : V.depths (l ++ [x]) = max (V.depths l) x.depth := by
  induction l with
  | nil => simp [V.depths]
  | cons k l ih => simp only [List.cons_append, V.depths, ih]; omega
theorem V.depths_le (ks : List V) (h : ∀ k ∈ ks, V.depth k ≤ V.size k + 1) : V.depths ks ≤ V.sizes ks := by
  induction ks with
  | nil => simp [V.depths]
  | cons k ks ih =>
    simp only [V.depths, V.sizes]
    have h1 := h k (by simp)
    have h2 := ih fun x hx => h x (by simp [hx])
    omega
theorem V.depth_le : ∀ v : V, v.depth ≤ v.size + 1 := V.ind fun c n ks ih => by
  simp only [V.depth, V.size]
  have := V.depths_le ks ih
  omega
theorem V.depths_take_succ (l : List V) (k : Nat) (h : k < l.length) : V.depths (l.take (k + 1)) = max (V.depths (l.take k)) l[k].depth := by
  rw [take_snoc' l k h, V.depths_snoc]
theorem V.sizes_mem (l : List V) (k : Nat) (h : k < l.length) : l[k].size + 1 ≤ V.sizes l := by
  have := V.size_lt l k h
  omega
theorem V.depths_take_le (l : List V) (k : Nat) : V.depths (l.take k) ≤ V.sizes l := by
  have h1 := V.depths_le (l.take k) (fun x _ => V.depth_le x)
  have h2 := V.sizes_eq (l.take k)
  have h3 := V.subs_take_le l k
  have h4 := V.sizes_eq l
  simp at h2
  omega

def DepthSpec (v : V) : Prop := ∀ (w : World) (cs : List Value) (F : List Nat), VR w v cs F → Under w.heap.size F → v.size ≤ 1048576 →
  Calls Try.prog 12 #[.agg cs.toArray] w fun e w' => e = .returned (.int .i64 v.depth) ∧ Below w.heap.size w w'

set_option maxHeartbeats 400000 in
theorem spec_DepthOf_all : ∀ v, DepthSpec v := V.ind fun c n ks ih w cs F hv hF hz => by
  obtain ⟨kv, rfl, hk⟩ := (VR_iff _ _ _).1 hv
  have hz' : V.sizes ks ≤ 1048576 := hz
  have hn : ks.length ≤ 1048576 := by rw [V.sizes_eq] at hz'; omega
  have HZ := Lib.hid hz'
  clear hz hz'
  have IH := Lib.hid ih
  clear ih hv
  obtain ⟨A, cap, rfl, -, -⟩ := hk.form
  have HK := Lib.hid hk
  clear hk
  have HF := Lib.hid hF
  clear hF
  go_enter Try.func12, Try.ntmps12
  go_wp2
  have hB0 : Below w.heap.size w (w.alloc (.cells #[.int .i64 c, .int .i64 n, .slice A ks.length cap] 25)) := (Below.refl _ _).alloc (Nat.le_refl _) _
  go_loopw [3, 4] (fun m i wr => ∃ k d : Nat, k ≤ ks.length ∧ i = .int .i64 k ∧ m = .int .i64 d ∧ d ≤ 1048576 ∧ Hid (d = V.depths (ks.take k)) ∧ Below (w.heap.size + 1) (w.alloc (.cells #[.int .i64 c, .int .i64 n, .slice A ks.length cap] 25)) wr) (fun _ i _ => ks.length - (intOf i).toNat)
  case atStart => exact ⟨0, 0, Nat.zero_le _, rfl, rfl, by omega, by simp [Hid, V.depths], Below.refl _ _⟩
  case round =>
    obtain ⟨k, d, hk, rfl, rfl, hd, HD, hB1⟩ := hrel
    have hB := hB0.trans (hB1.mono (by omega))
    have x2 : wr.cell? ⟨w.heap.size, 2, none⟩ = some (.slice A ks.length cap) := (hB1.cell (p := ⟨w.heap.size, 2, none⟩) (by simp)).trans (by simp)
    have hsz : w.heap.size < wr.heap.size := by have := hB1.size; simp at this; omega
    clear hB0
    by_cases hlt : k < ks.length
    · obtain ⟨b, off, cs, G, rfl, hb, hcs, hv, hG⟩ := HK.out.get VR_len hlt
      have hbl := HF.out b hb
      have hGF := HF.out.sub hG
      have hv1 := hv.below hB hGF
      have hcs1 := hcs.same (hB.block b hbl)
      obtain ⟨kv, rfl, _⟩ := (VR_iff _ _ _).1 hv
      have c0 := hcs1 0 _ rfl
      have c1 := hcs1 1 _ rfl
      have c2 := hcs1 2 _ rfl
      simp only [Nat.add_zero] at c0
      clear hcs hcs1 hv hG
      have HV := Lib.hid hv1
      clear hv1
      have HG := Lib.hid hGF
      clear hGF
      go_wp2_with fail
      refine (IH.out _ (List.getElem_mem hlt) _ _ G HV.out (HG.out.mono hB.size) (by have := V.sizes_mem ks k hlt; have := HZ.out; omega)).mono ?_
      rintro e w' ⟨rfl, hB'⟩
      have hB2 := hB1.trans (hB'.mono (by omega))
      have hs := V.depths_take_succ ks k hlt
      have hle : ks[k].depth ≤ 1048576 := by have := V.depth_le ks[k]; have := V.sizes_mem ks k hlt; have := HZ.out; omega
      by_cases hgt : d < ks[k].depth
      · have HS : Hid (ks[k].depth = V.depths (ks.take (k + 1))) := by rw [hs, ← HD.out]; unfold Hid; omega
        clear hs
        generalize ks[k].depth = e at *
        go_wp2
        go_roundw
        case rel => exact ⟨k + 1, e, by omega, by go_num, rfl, hle, HS, hB2⟩
        case measure => simp [intOf]; omega
      · have HS : Hid (d = V.depths (ks.take (k + 1))) := by rw [hs, ← HD.out]; unfold Hid; omega
        clear hs
        generalize ks[k].depth = e at *
        go_wp2
        go_roundw
        case rel => exact ⟨k + 1, d, by omega, by go_num, rfl, hd, HS, hB2⟩
        case measure => simp [intOf]; omega
    · have HS : Hid (((d : Int) + 1) = ((V.depth ⟨c, n, ks⟩ : Nat) : Int)) := by
        have := HD.out
        rw [List.take_of_length_le (by omega)] at this
        simp only [V.depth, Hid]; omega
      go_wp2
      go_ret
      exact ⟨ret_int HS.out, hB⟩

def DepthImpl (v : V) : Prop := ∀ (w : World) (cs : List Value) (F : List Nat), VR w v cs F → Under w.heap.size F → v.size ≤ 1048576 →
  Calls Try.prog 11 #[.agg cs.toArray] w fun e w' => e = .returned (.int .i64 v.depth) ∧ Below w.heap.size w w'

set_option maxHeartbeats 400000 in
theorem impl_DepthOf_all : ∀ v, DepthImpl v := V.ind fun c n ks ih w cs F hv hF hz => by
  obtain ⟨kv, rfl, hk⟩ := (VR_iff _ _ _).1 hv
  have hz' : V.sizes ks ≤ 1048576 := hz
  have hn : ks.length ≤ 1048576 := by rw [V.sizes_eq] at hz'; omega
  have HZ := Lib.hid hz'
  clear hz hz'
  have IH := Lib.hid ih
  clear ih hv
  obtain ⟨A, cap, rfl, -, -⟩ := hk.form
  have HK := Lib.hid hk
  clear hk
  have HF := Lib.hid hF
  clear hF
  go_enter Try.func11, Try.ntmps11
  go_wp2
  have hB0 : Below w.heap.size w (w.alloc (.cells #[.int .i64 c, .int .i64 n, .slice A ks.length cap] 25)) := (Below.refl _ _).alloc (Nat.le_refl _) _
  go_loopw [3, 9] (fun m i wr => ∃ k d : Nat, k ≤ ks.length ∧ i = .int .i64 k ∧ m = .int .i64 d ∧ d ≤ 1048576 ∧ Hid (d = V.depths (ks.take k)) ∧ Below w.heap.size w wr) (fun _ i _ => ks.length - (intOf i).toNat)
  case atStart => exact ⟨0, 0, Nat.zero_le _, rfl, rfl, by omega, by simp [Hid, V.depths], hB0⟩
  case round =>
    obtain ⟨k, d, hk, rfl, rfl, hd, HD, hB⟩ := hrel
    clear hB0
    by_cases hlt : k < ks.length
    · obtain ⟨b, off, cs, G, rfl, hb, hcs, hv, hG⟩ := HK.out.get VR_len hlt
      have hbl := HF.out b hb
      have hGF := HF.out.sub hG
      have hv1 := hv.below hB hGF
      have hcs1 := hcs.same (hB.block b hbl)
      obtain ⟨kv, rfl, ha⟩ := (VR_iff _ _ _).1 hv
      obtain ⟨A', cap', rfl, -, -⟩ := ha.form
      have c0 := hcs1 0 _ rfl
      have c1 := hcs1 1 _ rfl
      have c2 := hcs1 2 _ rfl
      simp only [Nat.add_zero] at c0
      clear hcs hcs1 hv hG ha
      have HV := Lib.hid hv1
      clear hv1
      have HG := Lib.hid hGF
      clear hGF
      go_wp2_with fail
      have hB1 := hB.alloc hB.size (.cells #[.int .i64 ks[k].c, .int .i64 ks[k].n, .slice A' ks[k].ks.length cap'] 25)
      refine (IH.out _ (List.getElem_mem hlt) _ _ G (HV.out.below ((Below.refl wr.heap.size wr).alloc (Nat.le_refl _) _) (HG.out.mono hB.size)) (HG.out.mono hB1.size) (by have := V.sizes_mem ks k hlt; have := HZ.out; omega)).mono ?_
      rintro e w' ⟨rfl, hB'⟩
      have hB2 := hB1.trans (hB'.mono hB1.size)
      have hs := V.depths_take_succ ks k hlt
      have hle : ks[k].depth ≤ 1048576 := by have := V.depth_le ks[k]; have := V.sizes_mem ks k hlt; have := HZ.out; omega
      have HS : Hid (max d ks[k].depth = V.depths (ks.take (k + 1))) := by rw [hs, ← HD.out]; rfl
      clear hs
      generalize ks[k].depth = e at *
      have hme : max d e ≤ 1048576 := by omega
      by_cases hde : d < e
      · have HS2 : Hid (e = V.depths (ks.take (k + 1))) := by rw [← HS.out]; unfold Hid; omega
        clear HS
        go_wp2
        go_roundw
        case rel => exact ⟨k + 1, e, by omega, by go_num, rfl, hle, HS2, hB2⟩
        case measure => simp [intOf]; omega
      · have HS2 : Hid (d = V.depths (ks.take (k + 1))) := by rw [← HS.out]; unfold Hid; omega
        clear HS
        go_wp2
        go_roundw
        case rel => exact ⟨k + 1, d, by omega, by go_num, rfl, hd, HS2, hB2⟩
        case measure => simp [intOf]; omega
    · have HS : Hid (((d : Int) + 1) = ((V.depth ⟨c, n, ks⟩ : Nat) : Int)) := by
        have := HD.out
        rw [List.take_of_length_le (by omega)] at this
        simp only [V.depth, Hid]; omega
      go_wp2
      go_ret
      exact ⟨ret_int HS.out, hB⟩
theorem spec_DepthOf (v : V) (w : World) (cs : List Value) (F : List Nat) (hv : VR w v cs F) (hF : Under w.heap.size F) (hz : v.size ≤ 1048576) :
    Calls Try.prog 12 #[.agg cs.toArray] w fun e w' => e = .returned (.int .i64 v.depth) ∧ Below w.heap.size w w' := spec_DepthOf_all v w cs F hv hF hz
theorem impl_DepthOf (v : V) (w : World) (cs : List Value) (F : List Nat) (hv : VR w v cs F) (hF : Under w.heap.size F) (hz : v.size ≤ 1048576) :
    Calls Try.prog 11 #[.agg cs.toArray] w fun e w' => e = .returned (.int .i64 v.depth) ∧ Below w.heap.size w w' := impl_DepthOf_all v w cs F hv hF hz
end Go.Proofs.Ytgckkiencmickaa

namespace Go.Proofs.Ytgckkiencmickaa
open Go.ChangeShapes Go.WideShapes Go.ChangeAt Go.RowKit

section
variable {H : Type} {enc : TypeId × Value → H} {P : Program} {w : World} {base : Nat} {spare : Nat → Bool} {held : Bool}

theorem cell_lt {w : World} {a : Addr} {v : Value} (h : w.cell? a = some v) : a.block < w.heap.size := by
  rcases Nat.lt_or_ge a.block w.heap.size with hl | hl
  · exact hl
  · unfold World.cell? at h
    rw [Array.getElem?_eq_none hl] at h
    cases h

theorem open_Arr {α : Type} (R : α → List Value → List Nat → Prop) {t e : TypeId} {k n fuel : Nat} {cs : List Value} {x : DataW H × List MemPlace} (ht : P.underlying t = some (.slice e)) (hk : P.cellsOf e = k) (hk0 : 0 < k) (hf : fuel = n + 1)
    (hR : ∀ ds y, DataW.trod enc P w base spare held n e ds = some y → ds.length = k → ∃ a F, R a ds F ∧ Under w.heap.size F)
    (h : DataW.trod enc P w base spare held fuel t cs = some x) : ∃ xs v F, cs = [v] ∧ Arr w R xs v F ∧ Under w.heap.size F := by
  subst hf
  rcases DataW.trod_slice ht h with ⟨rfl, -⟩ | ⟨a, len, cap, elems, rest, m, hm, rfl, -, -, hl, hmax, hlen, hel, -, -⟩
  · exact ⟨[], _, [], rfl, Arr.nil, Under.nil _⟩
  · obtain rfl : n = m := by omega
    by_cases h0 : len = 0
    · subst h0
      exact ⟨[], _, [], rfl, ⟨_, _, rfl, hl, hmax, .inl ⟨rfl, rfl⟩⟩, Under.nil _⟩
    · have get : ∀ i, i < len → ∃ ds y, (∀ j, j < k → w.cell? (a.add (i * k + j)) = ds[j]?) ∧ ds.length = k ∧ DataW.trod enc P w base spare held n e ds = some y := fun i hi => by
        have h1 := hel i hi
        rw [List.getElem?_eq_getElem (by omega), Option.bind_eq_some_iff] at h1
        obtain ⟨ds, h2, h3⟩ := h1
        obtain ⟨-, h4, h5⟩ := World.cells?_some h2
        rw [hk] at h4 h5
        refine ⟨ds, _, fun j hj => ?_, h4, h3⟩
        rw [← h5 j hj]
        congr 1
        unfold Addr.add
        by_cases e1 : i * k = 0 <;> by_cases e2 : j = 0 <;> simp [e1, e2, Nat.add_assoc]
      obtain ⟨b, off, spot⟩ := a
      obtain ⟨ds0, y0, g1, g2, -⟩ := get 0 (by omega)
      have hc0 : w.cell? ⟨b, off, spot⟩ = some (ds0[0]'(by omega)) := by
        have := g1 0 hk0
        simpa [Addr.add, List.getElem?_eq_getElem (show 0 < ds0.length by omega)] using this
      have hspot : spot = none := by simpa using World.cell?_spot hc0
      subst hspot
      have hb : b < w.heap.size := cell_lt hc0
      have key : ∀ m, m ≤ len → ∃ (xs : List α) (cs : List Value) (F : List Nat), xs.length = m ∧ cs.length = m * k ∧ CellsAt w b off cs ∧ Flat R xs cs F ∧ Under w.heap.size F := by
        intro m
        induction m with
        | zero => intro _; exact ⟨[], [], [], rfl, by simp, fun j u hj => by simp at hj, ⟨rfl, rfl⟩, Under.nil _⟩
        | succ m ih =>
          intro hm
          obtain ⟨xs, cs, F, h1, h2, h3, h4, h5⟩ := ih (by omega)
          obtain ⟨ds, y, g1, g2, g3⟩ := get m (by omega)
          obtain ⟨z, G, r1, r2⟩ := hR ds y g3 g2
          refine ⟨xs ++ [z], cs ++ ds, F ++ G, by simp [h1], by simp [h2, g2, Nat.add_mul], h3.append (fun j u hj => ?_), h4.append (Flat.one r1), fun c hc => ?_⟩
          · have hjk : j < k := by rw [← g2]; exact (List.getElem?_eq_some_iff.1 hj).1
            have := g1 j hjk
            rw [hj, Addr.add_lit] at this
            rw [h2, ← this]
            congr 2
            omega
          · rcases List.mem_append.1 hc with hc | hc
            · exact h5 c hc
            · exact r2 c hc
      obtain ⟨xs, cs, F, h1, h2, h3, h4, h5⟩ := key len (Nat.le_refl _)
      refine ⟨xs, _, b :: F, rfl, ⟨_, _, by rw [h1], by omega, hmax, .inr ⟨b, off, cs, F, rfl, h3, h4, rfl⟩⟩, fun c hc => ?_⟩
      rcases List.mem_cons.1 hc with rfl | hc
      · exact hb
      · exact h5 c hc

theorem one_field {fs : Array Field} {n : Nat} {cs : List Value} {xs : List (DataW H × List MemPlace)}
    (hf : ∀ (i : Nat) (f : Field), fs[i]? = some f → DataW.trod enc P w base spare held n f.type ((cs.drop f.offset).take (P.cellsOf f.type)) = xs[i]?)
    (hone : Deep.oneCellFields P fs = true) (hxl : xs.length = fs.size) (i : Nat) (f : Field) (hi : fs[i]? = some f) (c : Value) (hc : cs[i]? = some c) :
    ∃ y, DataW.trod enc P w base spare held n f.type [c] = some y := by
  obtain ⟨h1, h2⟩ := Deep.hone_of hone i f hi
  have h := hf i f hi
  have hlt : i < fs.size := (Array.getElem?_eq_some_iff.1 hi).1
  rw [List.getElem?_eq_getElem (show i < xs.length by omega), h1, h2] at h
  obtain ⟨hlc, hcc⟩ := List.getElem?_eq_some_iff.1 hc
  rw [List.drop_eq_getElem_cons hlc, hcc] at h
  exact ⟨_, h⟩

theorem sub_field {fs : Array Field} {n : Nat} {cs : List Value} {xs : List (DataW H × List MemPlace)}
    (hf : ∀ (i : Nat) (f : Field), fs[i]? = some f → DataW.trod enc P w base spare held n f.type ((cs.drop f.offset).take (P.cellsOf f.type)) = xs[i]?)
    (hxl : xs.length = fs.size) (i : Nat) (f : Field) (hi : fs[i]? = some f) (k off : Nat) (hk : P.cellsOf f.type = k) (ho : f.offset = off) :
    ∃ y, DataW.trod enc P w base spare held n f.type ((cs.drop off).take k) = some y := by
  have h := hf i f hi
  have hlt : i < fs.size := (Array.getElem?_eq_some_iff.1 hi).1
  rw [List.getElem?_eq_getElem (show i < xs.length by omega), hk, ho] at h
  exact ⟨_, h⟩

theorem open_slice_arg {α : Type} (R : α → List Value → List Nat → Prop) {t e : TypeId} {k : Nat} {r : Reach} {b0 : Nat} {v : Value} {d : DataW H} {ps : List MemPlace} (ht : P.underlying t = some (.slice e)) (hk : P.cellsOf e = k) (hk0 : 0 < k)
    (hR : ∀ n ds y, DataW.trod enc P w base spare held n e ds = some y → ∃ a F, R a ds F ∧ Under w.heap.size F)
    (hval : Value.okWide P w r b0 t v) (h : DataW.Trod enc P w base spare held t v d ps) : ∃ xs F, Arr w R xs v F ∧ Under w.heap.size F := by
  obtain ⟨a, len, cap, rfl⟩ := okWide_slice ht hval
  obtain ⟨fuel, hf⟩ := h
  cases fuel with
  | zero => simp [DataW.trod] at hf
  | succ n =>
    obtain ⟨xs, v, F, hv, ha, hF⟩ := open_Arr R ht hk hk0 rfl (fun ds y hd _ => hR n ds y hd) hf
    have : v = .slice a len cap := by simpa [Value.cells] using hv.symm
    subst this
    exact ⟨xs, F, ha, hF⟩
end
end Go.Proofs.Ytgckkiencmickaa

namespace Go.Proofs.Ytgckkiencmickaa
open Go.ChangeShapes Go.WideShapes Go.ChangeAt Go.RowKit
set_option maxRecDepth 100000

theorem cellsOf_u8 : Try.prog.cellsOf 5 = 1 := by kernel_rfl
theorem open_By_cells {H : Type} {enc : TypeId × Value → H} {w : World} {base : Nat} {spare : Nat → Bool} {held : Bool} (fuel : Nat) (cs : List Value) (x : DataW H × List MemPlace)
    (h : DataW.trod enc Try.prog w base spare held fuel 5 cs = some x) : ∃ v F, ByR w v cs F ∧ Under w.heap.size F := by
  cases fuel with
  | zero => simp [DataW.trod] at h
  | succ n =>
  obtain ⟨i0, e0, -, e2⟩ := DataW.trod_int Try.underlying5 h
  have hw : IntKind.u8.min ≤ i0 ∧ i0 ≤ IntKind.u8.max := by simpa [Lit.wf] using e2
  have h0 : IntKind.u8.min = 0 := rfl
  have h1 : IntKind.u8.max = 255 := rfl
  exact ⟨i0, [], ⟨e0, rfl, by omega, by omega⟩, Under.nil _⟩
theorem open_Bytes {H : Type} {enc : TypeId × Value → H} {w : World} {base : Nat} {spare : Nat → Bool} {held : Bool} {r : Reach} {b0 : Nat} {v : Value} {d : DataW H} {ps : List MemPlace} (hval : Value.okWide Try.prog w r b0 22 v)
    (h : DataW.Trod enc Try.prog w base spare held 22 v d ps) : ∃ (x : List Int) (F : List Nat), Arr w (ByR w) x v F ∧ Under w.heap.size F :=
  open_slice_arg (ByR w) Try.underlying22 cellsOf_u8 (by decide) (fun n ds y hd => open_By_cells n ds y hd) hval h
end Go.Proofs.Ytgckkiencmickaa
