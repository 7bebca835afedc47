/-
  Lemmas and contracts of functions: DrawValueValid of the reference: a world, a type and a value. Conditions: none. DrawFormatValue of the reference: a world, a type and a value. Conditions: none. The texts of worlds, written by strings.Join: plain laws. Conditions: none. Lists of texts in brackets; names of constructors. Conditions: none. l2Count of the reference. Conditions: no more than two million nodes. valueScan of the program, without holes. Conditions: the world is valid. ValueValid of both. Conditions: no more than a million nodes. Texts of values: plain laws. Conditions: none. Values fit wider types, with the same text (plain). Conditions: none. FormatValue of the reference. Conditions: none. strings.Join: its contract at this program (laid by the kit's tool), and in the words of these texts. Conditions: the lists and the result are short. listed of the program. Conditions: no more than 1000 texts. strconv.Itoa at one digit. Conditions: none.
-/
import Derived.Test.YtgckkiencmickaaDoorKAF
import Derived.Test.YtgckkiencmickaaDoorKAG
import Derived.Test.YtgckkiencmickaaDoorKAC
import Derived.Test.YtgckkiencmickaaDoorKAD
import Derived.Lib.Join
import Derived.Test.YtgckkiencmickaaDoorKAB
import Derived.Deep.RegionWith
import Derived.Deep.RegionHeld3
import Derived.Deep.QuietTactic
import Derived.BigQuiet
import Derived.IntWalk
import Derived.Test.YtgckkiencmickaaDoorChecked
import Derived.Shelf.Strings.Builder1
import Derived.Shelf.Strings.Builder2
import Derived.Shelf.Strings.OnBuilder

set_option linter.unusedVariables false
set_option linter.unusedSimpArgs false

namespace Go.Proofs.YtgckkiencmickaaDoor
open Go.RowKit

/-- a world, a type and a value -/
def DrewWTV (w : World) (e : Ending) (w' : World) : Prop := ∃ (xs : List Dt) (v : Value) (F : List Nat) (t : Ty) (a : V) (cs : List Value) (G : List Nat), e = .returned (.tuple #[v, .agg #[.int .i64 t.d, .int .i64 t.i], .agg cs.toArray]) ∧ Below w.heap.size w w' ∧ Arr w' (DtR w') xs v F ∧ Fresh w w' F ∧ VR w' a cs G ∧ Fresh w w' G ∧ nodes a ≤ 600000
set_option maxRecDepth 100000 in
set_option maxHeartbeats 8000000 in
theorem spec_DrawValueValid (bs : List Int) (w : World) (v : Value) (F : List Nat) (hx : Arr w (ByR w) bs v F) (hf : Under w.heap.size F) :
    Calls Tryd.prog 7 #[v] w (DrewWTV w) := by
  have hB2 : Below w.heap.size w ((w.alloc (.cells #[.int .i64 0, .int .i64 0] 25)).alloc (.cells #[.int .i64 0, .int .i64 0, .slice none 0 0] 28)) := ((Below.refl _ _).alloc (Nat.le_refl _) _).alloc (by simp) _
  have K22 : Hid (Blk ((w.alloc (.cells #[.int .i64 0, .int .i64 0] 25)).alloc (.cells #[.int .i64 0, .int .i64 0, .slice none 0 0] 28)) (w.heap.size) 25 #[.int .i64 0, .int .i64 0]) := (Blk.new w _ _).same (Below.heap_alloc _ _ _ (by simp))
  have K32 : Hid (Blk ((w.alloc (.cells #[.int .i64 0, .int .i64 0] 25)).alloc (.cells #[.int .i64 0, .int .i64 0, .slice none 0 0] 28)) (w.heap.size + 1) 28 #[.int .i64 0, .int .i64 0, .slice none 0 0]) := blk_second w _ 28 _
  have hs2 : (((w.alloc (.cells #[.int .i64 0, .int .i64 0] 25)).alloc (.cells #[.int .i64 0, .int .i64 0, .slice none 0 0] 28))).heap.size = w.heap.size + 2 := by simp
  have HX2 : Hid (Arr ((w.alloc (.cells #[.int .i64 0, .int .i64 0] 25)).alloc (.cells #[.int .i64 0, .int .i64 0, .slice none 0 0] 28)) (ByR ((w.alloc (.cells #[.int .i64 0, .int .i64 0] 25)).alloc (.cells #[.int .i64 0, .int .i64 0, .slice none 0 0] 28))) bs v F) := ArrBy.mono hx (.of_below hB2 hf)
  have HU2 : Hid (Under (((w.alloc (.cells #[.int .i64 0, .int .i64 0] 25)).alloc (.cells #[.int .i64 0, .int .i64 0, .slice none 0 0] 28))).heap.size F) := hf.mono hB2.size
  clear hx hf
  go_enter Tryd.func7, Tryd.ntmps7
  go_wp2_with fail
  obtain ⟨w2, hw2⟩ : ∃ X, X = ((w.alloc (.cells #[.int .i64 0, .int .i64 0] 25)).alloc (.cells #[.int .i64 0, .int .i64 0, .slice none 0 0] 28)) := ⟨_, rfl⟩
  rw [← hw2] at hB2 K22 K32 hs2 HX2 HU2 ⊢
  clear hw2
  refine (spec_l17Open bs w2 v F HX2.out HU2.out).mono ?_
  rintro e w3 ⟨g, rfl, hge, hb3, hR3⟩
  have HR3 := Lib.hid hR3
  have hg3 : g < w3.heap.size := hR3.lt
  have hB3 : Below w.heap.size w w3 := hB2.trans (hb3.mono hB2.size)
  have K23 := Lib.hid (K22.out.same (hb3.block _ K22.out.lt))
  have K33 := Lib.hid (K32.out.same (hb3.block _ K32.out.lt))
  clear hR3 hb3 K22 K32 HX2 HU2 hB2
  go_wp2_with fail
  refine (spec_l2Typed 0 g w3 HR3.out (by omega)).mono ?_
  rintro e w4 ⟨xs, v4, FW, t, a, csa, Fa, q4, rfl, htok, ha4, hfs4, hp4, hf4, hn4, hr4, hq4, hc4⟩
  obtain ⟨kva, rfl, haa⟩ := (VR_iff _ _ _).1 hp4
  obtain ⟨pA, pcap, rfl, -, -⟩ := haa.form
  obtain ⟨A1, cap1, rfl, -, -⟩ := ha4.form
  have hz4 := hc4.size
  have hB4 : Below w.heap.size w w4 := hB3.trans (hc4.below (fun b hb => by rw [List.mem_singleton] at hb; omega) hB3.size)
  have K24 := Lib.hid (K23.out.same (hc4.block _ K23.out.lt (by rw [List.mem_singleton]; omega)))
  have K34 := Lib.hid (K33.out.same (hc4.block _ K33.out.lt (by rw [List.mem_singleton]; omega)))
  have HTOK := Lib.hid htok
  have HFW : Hid (∀ b ∈ FW, w3.heap.size ≤ b) := fun b hb => (hfs4 b hb).1
  have HFA : Hid (∀ b ∈ Fa, w3.heap.size ≤ b ∧ b ≠ g) := fun b hb => ⟨(hf4 b hb).1, by have := (hf4 b hb).1; omega⟩
  have hfwk := fun b hb => (hfs4 b hb).2
  have hfak := fun b hb => (hf4 b hb).2
  have HNA : Hid (nodes a ≤ 600000) := by unfold Hid; omega
  have hna : nodes a ≤ 256 := hn4
  have hb5 : Below w4.heap.size w4 ((w4.alloc (.cells #[.int .i64 t.d, .int .i64 t.i] 25)).alloc (.cells #[.int .i64 a.c, .int .i64 a.n, .slice pA a.ks.length pcap] 28)) := ((Below.refl _ _).alloc (Nat.le_refl _) _).alloc (by simp) _
  have KB5 : Hid (Blk ((w4.alloc (.cells #[.int .i64 t.d, .int .i64 t.i] 25)).alloc (.cells #[.int .i64 a.c, .int .i64 a.n, .slice pA a.ks.length pcap] 28)) w4.heap.size 25 #[.int .i64 t.d, .int .i64 t.i]) := (Blk.new w4 _ _).same (Below.heap_alloc _ _ _ (by simp))
  have KC5 : Hid (Blk ((w4.alloc (.cells #[.int .i64 t.d, .int .i64 t.i] 25)).alloc (.cells #[.int .i64 a.c, .int .i64 a.n, .slice pA a.ks.length pcap] 28)) (w4.heap.size + 1) 28 #[.int .i64 a.c, .int .i64 a.n, .slice pA a.ks.length pcap]) := blk_second w4 _ 28 _
  have HA5 := Lib.hid (ArrDt.below ha4 hb5 (Fresh.under hfs4))
  have HUW5 : Hid (Under (((w4.alloc (.cells #[.int .i64 t.d, .int .i64 t.i] 25)).alloc (.cells #[.int .i64 a.c, .int .i64 a.n, .slice pA a.ks.length pcap] 28))).heap.size FW) := (Fresh.under hfs4).mono hb5.size
  have HP5 := Lib.hid (VR.below hp4 hb5 (fun b hb => (hf4 b hb).2))
  have HUa5 : Hid (Under (((w4.alloc (.cells #[.int .i64 t.d, .int .i64 t.i] 25)).alloc (.cells #[.int .i64 a.c, .int .i64 a.n, .slice pA a.ks.length pcap] 28))).heap.size Fa) := fun b hb => Nat.lt_of_lt_of_le (hf4 b hb).2 hb5.size
  have HR5 := Lib.hid (hr4.below hb5)
  have HB5 : Hid (Below w.heap.size w ((w4.alloc (.cells #[.int .i64 t.d, .int .i64 t.i] 25)).alloc (.cells #[.int .i64 a.c, .int .i64 a.n, .slice pA a.ks.length pcap] 28))) := hB4.trans (hb5.mono hB4.size)
  have K25 := Lib.hid (K24.out.same (hb5.block _ K24.out.lt))
  have K35 := Lib.hid (K34.out.same (hb5.block _ K34.out.lt))
  clear htok ha4 hfs4 hp4 hf4 hn4 hr4 hc4 haa hb5 K23 K33 K24 K34 HR3 hB3 hB4
  go_wp2_with fail
  obtain ⟨w5, hw5⟩ : ∃ X, X = ((w4.alloc (.cells #[.int .i64 t.d, .int .i64 t.i] 25)).alloc (.cells #[.int .i64 a.c, .int .i64 a.n, .slice pA a.ks.length pcap] 28)) := ⟨_, rfl⟩
  rw [← hw5] at KB5 KC5 HA5 HUW5 HP5 HUa5 HR5 HB5 K25 K35 ⊢
  clear hw5
  obtain ⟨k, hk⟩ : ∃ X, X = w4.heap.size := ⟨_, rfl⟩
  obtain ⟨kp, hkp⟩ : ∃ X, X = k + 1 := ⟨_, rfl⟩
  rw [← hk] at KB5 KC5 hz4 hfwk hfak ⊢
  have HKW := Lib.hid hfwk
  have HKA := Lib.hid hfak
  clear hfwk hfak
  rw [← hkp] at KC5
  first | rw [← hkp] | skip
  have hkn : k < kp := by omega
  have HKH := Lib.hid (And.intro hk hkp)
  clear hk hkp
  refine (pick_any 8 q4 g w5 HR5.out (by omega) (by omega) (by omega)).mono ?_
  rintro e w6 ⟨r, rfl, hr2, hR6, hc6⟩
  have HR6 := Lib.hid hR6
  have HB6 : Hid (Below w.heap.size w w6) := HB5.out.trans (hc6.below (fun b hb => by rw [List.mem_singleton] at hb; omega) HB5.out.size)
  have hn1 : ∀ b, b < g ∨ w3.heap.size ≤ b → b ∉ [g] := fun b hb h => by rw [List.mem_singleton] at h; omega
  have K26 := Lib.hid (K25.out.same (hc6.block _ K25.out.lt (hn1 _ (.inl (by omega)))))
  have K36 := Lib.hid (K35.out.same (hc6.block _ K35.out.lt (hn1 _ (.inl (by omega)))))
  have KB6 := Lib.hid (KB5.out.same (hc6.block _ KB5.out.lt (hn1 _ (.inr (by omega)))))
  have KC6 := Lib.hid (KC5.out.same (hc6.block _ KC5.out.lt (hn1 _ (.inr (by omega)))))
  have HA6 := Lib.hid (ArrDt.mono HA5.out (hc6.kept HUW5.out (fun b hb => hn1 b (.inr (HFW.out b hb)))))
  have HUW6 : Hid (Under w6.heap.size FW) := HUW5.out.mono hc6.size
  have HP6 := Lib.hid (VR.mono _ _ _ (hc6.kept HUa5.out (fun b hb => hn1 b (.inr (HFA.out b hb).1))) HP5.out)
  have HUa6 : Hid (Under w6.heap.size Fa) := HUa5.out.mono hc6.size
  have hk6 : kp < w6.heap.size := KC6.out.lt
  obtain ⟨zs, hzs⟩ := HR6.out.bytes
  obtain ⟨B, hB1, hB2', hB3⟩ := pot_big zs hzs.le hzs.len (q4 + 1) (by omega)
  have HRB6 := Lib.hid hzs
  have HB3 := Lib.hid hB3
  clear hzs hB3
  clear hR6 hc6 K25 K35 KB5 KC5 HA5 HUW5 HP5 HUa5 HR5 HB5 hn1
  cases q0 : ((r : Int) == 0) with
  | true =>
    go_wp2_with fail
    refine (spec_l1Some (q4 + 1) g w6 HR6.out (by omega) A1 xs.length cap1 HTOK.out.pos (by have := (worldOK HTOK.out.ok).len; omega)).mono ?_
    rintro e w7 ⟨t2, q5, rfl, hR7, hq7, hc7⟩
    have hn7 : ∀ b, b < g ∨ w3.heap.size ≤ b → b ∉ [g] := fun b hb h => by rw [List.mem_singleton] at h; omega
    have K27 := Lib.hid (K26.out.same (hc7.block _ K26.out.lt (hn7 _ (.inl (by omega)))))
    have K37 := Lib.hid (K36.out.same (hc7.block _ K36.out.lt (hn7 _ (.inl (by omega)))))
    have KB7 := Lib.hid (KB6.out.same (hc7.block _ KB6.out.lt (hn7 _ (.inr (by omega)))))
    have KC7 := Lib.hid (KC6.out.same (hc7.block _ KC6.out.lt (hn7 _ (.inr (by omega)))))
    have HA7 := Lib.hid (ArrDt.mono HA6.out (hc7.kept HUW6.out (fun b hb => hn7 b (.inr (HFW.out b hb)))))
    have HUW7 : Hid (Under w7.heap.size FW) := HUW6.out.mono hc7.size
    have HP7 := Lib.hid (VR.mono _ _ _ (hc7.kept HUa6.out (fun b hb => hn7 b (.inr (HFA.out b hb).1))) HP6.out)
    have HUa7 : Hid (Under w7.heap.size Fa) := HUa6.out.mono hc7.size
    have HB7 : Hid (Below w.heap.size w w7) := HB6.out.trans (hc7.below (fun b hb => by rw [List.mem_singleton] at hb; omega) HB6.out.size)
    have HR7 := Lib.hid hR7
    have y0 : w7.cell? ⟨k, 0, none⟩ = some (.int .i64 t.d) := (KB7.out.cell 0).trans (by simp)
    have y1 : w7.cell? ⟨k, 1, none⟩ = some (.int .i64 t.i) := (KB7.out.cell 1).trans (by simp)
    have f0 := KB7.out.frozen 0
    have f1 := KB7.out.frozen 1
    have ylt := KB7.out.lt
    clear hR7 hc7 K26 K36 KB6 KC6 HA6 HUW6 HP6 HUa6 HB6 HR6 hn7
    go_wp2_with fail
    clear y0 y1 f0 f1 ylt
    obtain ⟨wb, hwb⟩ : ∃ X, X = ((w7.setCell ⟨k, 0, none⟩ (.int .i64 t2.d)).setCell ⟨k, 1, none⟩ (.int .i64 t2.i)) := ⟨_, rfl⟩
    have hfar : ∀ b, b ≠ k → wb.heap[b]? = w7.heap[b]? := fun b hb => by rw [hwb, Below.heap_setCell _ _ _ _ hb, Below.heap_setCell _ _ _ _ hb]
    have KBb : Hid (Blk wb k 25 #[.int .i64 t2.d, .int .i64 t2.i]) := by rw [hwb]; exact (KB7.out.set_ 0 _).set_ 1 _
    have hzb : wb.heap.size = w7.heap.size := by rw [hwb]; simp [World.setCell]
    have HBb : Hid (Below w.heap.size w wb) := by rw [hwb]; exact (HB7.out.setCell (by show w.heap.size ≤ k; omega) _).setCell (by show w.heap.size ≤ k; omega) _
    rw [← hwb]
    clear hwb
    have K2b := Lib.hid (K27.out.same (hfar _ (by omega)))
    have K3b := Lib.hid (K37.out.same (hfar _ (by omega)))
    have KCb := Lib.hid (KC7.out.same (hfar _ (by omega)))
    have hkW : ∀ b ∈ FW, b ≠ k := fun b hb e => by have := HKW.out b hb; omega
    have hkA : ∀ b ∈ Fa, b ≠ k := fun b hb e => by have := HKA.out b hb; omega
    have HAb := Lib.hid (ArrDt.mono HA7.out (w' := wb) (fun b hb => hfar b (hkW b hb)))
    have HUWb : Hid (Under wb.heap.size FW) := by rw [hzb]; exact HUW7.out
    have HPb := Lib.hid (VR.mono (w' := wb) _ _ _ (fun b hb => hfar b (hkA b hb)) HP7.out)
    have HUab : Hid (Under wb.heap.size Fa) := by rw [hzb]; exact HUa7.out
    have HRb : Hid (Rd wb g q5) := HR7.out.keep fun b hb => hfar b (by omega)
    obtain ⟨qb, hqb⟩ : ∃ X, X = q5 := ⟨_, rfl⟩
    rw [← hqb] at HRb
    have hqb4 : qb ≤ 3000 := by omega
    have hkb : kp < wb.heap.size := KCb.out.lt
    clear hqb hfar hkW hkA hzb K27 K37 KC7 HA7 HUW7 HP7 HUa7 HR7 HB7 KB7 q0
    go_wp2_with fail
    have HS : Hid (∀ C : World, Chg [g, w.heap.size, w.heap.size + 1] wb C → (C.cell? ⟨k, 0, none⟩ = some (.int .i64 t2.d) ∧ C.cell? ⟨k, 1, none⟩ = some (.int .i64 t2.i) ∧ C.cell? ⟨kp, 0, none⟩ = some (.int .i64 a.c) ∧ C.cell? ⟨kp, 1, none⟩ = some (.int .i64 a.n) ∧ C.cell? ⟨kp, 2, none⟩ = some (.slice pA a.ks.length pcap))) := fun C hC => ⟨(hC.cell (Nat.lt_trans hkn hkb) (by simp; omega)).trans ((KBb.out.cell 0).trans (by simp)), (hC.cell (Nat.lt_trans hkn hkb) (by simp; omega)).trans ((KBb.out.cell 1).trans (by simp)), (hC.cell hkb (by simp; omega)).trans ((KCb.out.cell 0).trans (by simp)), (hC.cell hkb (by simp; omega)).trans ((KCb.out.cell 1).trans (by simp)), (hC.cell hkb (by simp; omega)).trans ((KCb.out.cell 2).trans (by simp))⟩
    have hC0 : Chg [g, w.heap.size, w.heap.size + 1] wb wb.drew := (Chg.refl _ _).drew
    have K2d : Hid (Blk wb.drew (w.heap.size) 25 #[.int .i64 0, .int .i64 0]) := K2b.out
    have K3d : Hid (Blk wb.drew (w.heap.size + 1) 28 #[.int .i64 0, .int .i64 0, .slice none 0 0]) := K3b.out
    have HPd : Hid (VR wb.drew a [.int .i64 a.c, .int .i64 a.n, .slice pA a.ks.length pcap] Fa) := VR.drew HPb.out
    have HUd : Hid (Under wb.drew.heap.size Fa) := HUab.out
    have HRd : Hid (Rd wb.drew g qb) := HRb.out.keep (fun b hb => rfl)
    have HAd : Hid (Arr wb.drew (DtR wb.drew) xs (.slice A1 xs.length cap1) FW) := ArrDt.drew HAb.out
    have HWd : Hid (Under wb.drew.heap.size FW) := HUWb.out
    refine wp_region_B (S := fun w' => w'.cell? ⟨k, 0, none⟩ = some (.int .i64 t2.d) ∧ w'.cell? ⟨k, 1, none⟩ = some (.int .i64 t2.i) ∧ w'.cell? ⟨kp, 0, none⟩ = some (.int .i64 a.c) ∧ w'.cell? ⟨kp, 1, none⟩ = some (.int .i64 a.n) ∧ w'.cell? ⟨kp, 2, none⟩ = some (.slice pA a.ks.length pcap)) (T := fun _ => True) (d := 99) (by kernel_rfl) ?_
    obtain ⟨wd, hwd⟩ : ∃ X, X = wb.drew := ⟨_, rfl⟩
    have hzd : wb.heap.size ≤ wd.heap.size := by rw [hwd]; exact Nat.le_refl _
    rw [← hwd] at hC0 K2d K3d HPd HUd HRd HAd HWd ⊢
    clear hwd
    have hS0 := HS.out _ hC0
    have hT0 : True := trivial
    refine wpAnyB_take (i := 0) (v := ?_) rfl (by decide) (by kernel_rfl) (by kernel_rfl) (by kernel_rfl) (fun _ _ _ h => h) (Or.inl ⟨by rfl, ?hy0⟩) hS0 (fun _ => hT0) ?_
    case hy0 => (intro W hSw; (try dsimp only at hSw); (try obtain ⟨hSw0, hSw1, hSw2, hSw3, hSw4⟩ := hSw); go_simp; try with_reducible rfl)
    (try simp only [Act.put, List.getElem_toArray, List.getElem_cons_zero, List.getElem_cons_succ, List.setIfInBounds_toArray, List.set_cons_zero, List.set_cons_succ])
    refine wpAnyB_take (i := 1) (v := ?_) rfl (by decide) (by kernel_rfl) (by kernel_rfl) (by kernel_rfl) (fun _ _ _ h => h) (Or.inl ⟨by rfl, ?hy1⟩) hS0 (fun _ => hT0) ?_
    case hy1 => (intro W hSw; (try dsimp only at hSw); (try obtain ⟨hSw0, hSw1, hSw2, hSw3, hSw4⟩ := hSw); go_simp; try with_reducible rfl)
    (try simp only [Act.put, List.getElem_toArray, List.getElem_cons_zero, List.getElem_cons_succ, List.setIfInBounds_toArray, List.set_cons_zero, List.set_cons_succ])
    refine wpAnyB_take (i := 3) (v := ?_) rfl (by decide) (by kernel_rfl) (by kernel_rfl) (by kernel_rfl) (fun _ _ _ h => h) (Or.inl ⟨by rfl, ?hy3⟩) hS0 (fun _ => hT0) ?_
    case hy3 => (intro W hSw; (try dsimp only at hSw); (try obtain ⟨hSw0, hSw1, hSw2, hSw3, hSw4⟩ := hSw); go_simp; try with_reducible rfl)
    (try simp only [Act.put, List.getElem_toArray, List.getElem_cons_zero, List.getElem_cons_succ, List.setIfInBounds_toArray, List.set_cons_zero, List.set_cons_succ])
    refine wpAnyB_take (i := 4) (v := ?_) rfl (by decide) (by kernel_rfl) (by kernel_rfl) (by kernel_rfl) (fun _ _ _ h => h) (Or.inl ⟨by rfl, ?hy4⟩) hS0 (fun _ => hT0) ?_
    case hy4 => (intro W hSw; (try dsimp only at hSw); (try obtain ⟨hSw0, hSw1, hSw2, hSw3, hSw4⟩ := hSw); go_simp; try with_reducible rfl)
    (try simp only [Act.put, List.getElem_toArray, List.getElem_cons_zero, List.getElem_cons_succ, List.setIfInBounds_toArray, List.set_cons_zero, List.set_cons_succ])
    refine wpAnyB_take (i := 5) (v := ?_) rfl (by decide) (by kernel_rfl) (by kernel_rfl) (by kernel_rfl) (fun _ _ _ h => h) (Or.inl ⟨by rfl, ?hy5⟩) hS0 (fun _ => hT0) ?_
    case hy5 => (intro W hSw; (try dsimp only at hSw); (try obtain ⟨hSw0, hSw1, hSw2, hSw3, hSw4⟩ := hSw); go_simp; try with_reducible rfl)
    (try simp only [Act.put, List.getElem_toArray, List.getElem_cons_zero, List.getElem_cons_succ, List.setIfInBounds_toArray, List.set_cons_zero, List.set_cons_succ])
    refine wpAnyB_ready (rs := [2]) (by kernel_rfl) (by simp) ?_
    refine AllReadyB.cons rfl (fun K hK => ?_) AllReadyB.nil
    go_simp
    go_at_call 16
    refine (spec_l1Mutate qb g wd HRd.out (by omega) xs _ FW HAd.out HWd.out HTOK.out.pos (by have := (worldOK HTOK.out.ok).len; omega) 4 (by omega) (SmallW.of (worldOK HTOK.out.ok))).mono ?_
    rintro e C1 ⟨ys, v6, F6, q6, rfl, -, ha6, hfs6, hr6, hq6, hc1⟩
    have hC1 : Chg [g, w.heap.size, w.heap.size + 1] wb C1 := hC0.trans (hc1.mono (by simp))
    have K21 := Lib.hid (K2d.out.same (hc1.block _ K2d.out.lt (by rw [List.mem_singleton]; omega)))
    have K31 := Lib.hid (K3d.out.same (hc1.block _ K3d.out.lt (by rw [List.mem_singleton]; omega)))
    have HP1 := Lib.hid (VR.mono _ _ _ (hc1.kept HUd.out (fun b hb h => by rw [List.mem_singleton] at h; exact (HFA.out b hb).2 h)) HPd.out)
    have HU1 : Hid (Under C1.heap.size Fa) := HUd.out.mono hc1.size
    have HA1 := Lib.hid ha6
    have HR1 := Lib.hid hr6
    have HF6 : Hid (∀ b ∈ F6, wd.heap.size ≤ b ∧ b < C1.heap.size) := hfs6
    have hz1 := hc1.size
    have hwdk : w.heap.size + 2 ≤ wd.heap.size ∧ g < wd.heap.size := by have := HRd.out.lt; have := K3d.out.lt; omega
    clear ha6 hfs6 hr6 hc1 K2d K3d HPd HUd HRd HAd HWd
    (try dsimp only)
    refine hK.out _ _ (HS.out _ hC1) (fun _ => trivial) ?_
    clear hK K
    (try simp only [Act.put, List.getElem_toArray, List.getElem_cons_zero, List.getElem_cons_succ, List.setIfInBounds_toArray, List.set_cons_zero, List.set_cons_succ])
    refine wpAnyB_ready (rs := [6]) (by kernel_rfl) (by simp) ?_
    refine AllReadyB.cons rfl (fun K hK => ?_) AllReadyB.nil
    go_simp
    go_at_call 17
    obtain ⟨zs, hzs⟩ := HR1.out.bytes
    obtain ⟨B, hB1, hB2', hB3⟩ := pot_big zs hzs.le hzs.len q6 (by omega)
    refine (spec_l2Mutate_all zs B (by omega) (B + 2) a C1 q6 g hzs (by omega) (by omega) (by omega) (by omega) _ Fa HP1.out HU1.out (fun b hb => (HFA.out b hb).2)).mono ?_
    rintro e C2 ⟨b, cs2, Fb, q8, rfl, hp2, hf2, hn2, -, hl2, hq2, -, hc2⟩
    obtain ⟨kvb, rfl, hbb⟩ := (VR_iff _ _ _).1 hp2
    obtain ⟨qA, qcap, rfl, -, -⟩ := hbb.form
    have hC2 : Chg [g, w.heap.size, w.heap.size + 1] wb C2 := hC1.trans (hc2.mono (by simp))
    have K22 := Lib.hid (K21.out.same (hc2.block _ K21.out.lt (by rw [List.mem_singleton]; omega)))
    have K32 := Lib.hid (K31.out.same (hc2.block _ K31.out.lt (by rw [List.mem_singleton]; omega)))
    have HA2 := Lib.hid (ArrDt.mono HA1.out (hc2.kept (fun b hb => (HF6.out b hb).2) (fun b hb h => by rw [List.mem_singleton] at h; have := (HF6.out b hb).1; omega)))
    have HU2 : Hid (Under C2.heap.size F6) := fun b hb => Nat.lt_of_lt_of_le (HF6.out b hb).2 hc2.size
    have HPB := Lib.hid hp2
    have HUB : Hid (Under C2.heap.size Fb) := fun x hx => (hf2 x hx).1
    have HFB : Hid (∀ x ∈ Fb, w3.heap.size ≤ x ∧ x ≠ g) := fun x hx => ⟨by
      rcases (hf2 x hx).2.2 with h | h
      · exact (HFA.out x h).1
      · omega, (hf2 x hx).2.1⟩
    have HNB : Hid (nodes b ≤ 600000) := by unfold Hid; omega
    clear hp2 hf2 hc2 hbb HA1 HR1 hzs hB3
    (try dsimp only)
    refine hK.out _ _ (HS.out _ hC2) (fun _ => trivial) ?_
    clear hK K
    (try simp only [Act.put, List.getElem_toArray, List.getElem_cons_zero, List.getElem_cons_succ, List.setIfInBounds_toArray, List.set_cons_zero, List.set_cons_succ])
    refine wpAnyB_ready (rs := [7]) (by kernel_rfl) (by simp) ?_
    refine AllReadyB.cons rfl (fun K hK => ?_) AllReadyB.nil
    go_simp
    (try dsimp only)
    refine hK.out _ _ (HS.out _ hC2) (fun _ => trivial) ?_
    clear hK K
    (try simp only [Act.put, List.getElem_toArray, List.getElem_cons_zero, List.getElem_cons_succ, List.setIfInBounds_toArray, List.set_cons_zero, List.set_cons_succ])
    refine wpAnyB_ready (rs := [8]) (by kernel_rfl) (by simp) ?_
    refine AllReadyB.cons rfl (fun K hK => ?_) AllReadyB.nil
    have yy0 : C2.cell? ⟨w.heap.size, 0, none⟩ = some (.int .i64 0) := (K22.out.cell 0).trans (by simp)
    have ff0 := K22.out.frozen 0
    have yy1 : C2.cell? ⟨w.heap.size, 1, none⟩ = some (.int .i64 0) := (K22.out.cell 1).trans (by simp)
    have ff1 := K22.out.frozen 1
    have yylt := K22.out.lt
    have hC12 : Chg [g, w.heap.size, w.heap.size + 1] wb ((C2.setCell ⟨w.heap.size, 0, none⟩ (.int .i64 t2.d)).setCell ⟨w.heap.size, 1, none⟩ (.int .i64 t2.i)) := ((hC2.set (by simp)).set (by simp))
    have KK12 : Hid (Blk ((C2.setCell ⟨w.heap.size, 0, none⟩ (.int .i64 t2.d)).setCell ⟨w.heap.size, 1, none⟩ (.int .i64 t2.i)) (w.heap.size) 25 #[.int .i64 t2.d, .int .i64 t2.i]) := ((K22.out.set_ 0 _).set_ 1 _)
    have K3212 : Hid (Blk ((C2.setCell ⟨w.heap.size, 0, none⟩ (.int .i64 t2.d)).setCell ⟨w.heap.size, 1, none⟩ (.int .i64 t2.i)) (w.heap.size + 1) 28 #[.int .i64 0, .int .i64 0, .slice none 0 0]) := ((K32.out.same (Below.heap_setCell _ _ _ _ (by show w.heap.size + 1 ≠ w.heap.size; omega))).same (Below.heap_setCell _ _ _ _ (by show w.heap.size + 1 ≠ w.heap.size; omega)))
    have hz12 : (((C2.setCell ⟨w.heap.size, 0, none⟩ (.int .i64 t2.d)).setCell ⟨w.heap.size, 1, none⟩ (.int .i64 t2.i))).heap.size = C2.heap.size := by simp [World.setCell]
    have hkA12 : Kept F6 C2 ((C2.setCell ⟨w.heap.size, 0, none⟩ (.int .i64 t2.d)).setCell ⟨w.heap.size, 1, none⟩ (.int .i64 t2.i)) := fun x hx => by rw [Below.heap_setCell _ _ _ _ (by show x ≠ w.heap.size; have := HF6.out x hx; omega), Below.heap_setCell _ _ _ _ (by show x ≠ w.heap.size; have := HF6.out x hx; omega)]
    have hkB12 : Kept Fb C2 ((C2.setCell ⟨w.heap.size, 0, none⟩ (.int .i64 t2.d)).setCell ⟨w.heap.size, 1, none⟩ (.int .i64 t2.i)) := fun x hx => by rw [Below.heap_setCell _ _ _ _ (by show x ≠ w.heap.size; have := HFB.out x hx; omega), Below.heap_setCell _ _ _ _ (by show x ≠ w.heap.size; have := HFB.out x hx; omega)]
    go_simp
    refine hK.out _ _ (HS.out _ hC12) (fun _ => trivial) ?_
    clear hK K
    (try simp only [Act.put, List.getElem_toArray, List.getElem_cons_zero, List.getElem_cons_succ, List.setIfInBounds_toArray, List.set_cons_zero, List.set_cons_succ])
    clear yy0 ff0 yy1 ff1 yylt
    obtain ⟨D2, hX⟩ : ∃ X, X = ((C2.setCell ⟨w.heap.size, 0, none⟩ (.int .i64 t2.d)).setCell ⟨w.heap.size, 1, none⟩ (.int .i64 t2.i)) := ⟨_, rfl⟩
    rw [← hX] at hC12 KK12 K3212 hz12 hkA12 hkB12 ⊢
    clear hX
    refine wpAnyB_ready (rs := [9]) (by kernel_rfl) (by simp) ?_
    refine AllReadyB.cons rfl (fun K hK => ?_) AllReadyB.nil
    have yy0 : D2.cell? ⟨w.heap.size + 1, 0, none⟩ = some (.int .i64 0) := (K3212.out.cell 0).trans (by simp)
    have ff0 := K3212.out.frozen 0
    have yy1 : D2.cell? ⟨w.heap.size + 1, 1, none⟩ = some (.int .i64 0) := (K3212.out.cell 1).trans (by simp)
    have ff1 := K3212.out.frozen 1
    have yy2 : D2.cell? ⟨w.heap.size + 1, 2, none⟩ = some (.slice none 0 0) := (K3212.out.cell 2).trans (by simp)
    have ff2 := K3212.out.frozen 2
    have yylt := K3212.out.lt
    have hC13 : Chg [g, w.heap.size, w.heap.size + 1] wb (((D2.setCell ⟨w.heap.size + 1, 0, none⟩ (.int .i64 b.c)).setCell ⟨w.heap.size + 1, 1, none⟩ (.int .i64 b.n)).setCell ⟨w.heap.size + 1, 2, none⟩ (.slice qA b.ks.length qcap)) := (((hC12.set (by simp)).set (by simp)).set (by simp))
    have KK13 : Hid (Blk (((D2.setCell ⟨w.heap.size + 1, 0, none⟩ (.int .i64 b.c)).setCell ⟨w.heap.size + 1, 1, none⟩ (.int .i64 b.n)).setCell ⟨w.heap.size + 1, 2, none⟩ (.slice qA b.ks.length qcap)) (w.heap.size + 1) 28 #[.int .i64 b.c, .int .i64 b.n, .slice qA b.ks.length qcap]) := (((K3212.out.set_ 0 _).set_ 1 _).set_ 2 _)
    have KK1213 : Hid (Blk (((D2.setCell ⟨w.heap.size + 1, 0, none⟩ (.int .i64 b.c)).setCell ⟨w.heap.size + 1, 1, none⟩ (.int .i64 b.n)).setCell ⟨w.heap.size + 1, 2, none⟩ (.slice qA b.ks.length qcap)) (w.heap.size) 25 #[.int .i64 t2.d, .int .i64 t2.i]) := (((KK12.out.same (Below.heap_setCell _ _ _ _ (by show w.heap.size ≠ w.heap.size + 1; omega))).same (Below.heap_setCell _ _ _ _ (by show w.heap.size ≠ w.heap.size + 1; omega))).same (Below.heap_setCell _ _ _ _ (by show w.heap.size ≠ w.heap.size + 1; omega)))
    have hz13 : ((((D2.setCell ⟨w.heap.size + 1, 0, none⟩ (.int .i64 b.c)).setCell ⟨w.heap.size + 1, 1, none⟩ (.int .i64 b.n)).setCell ⟨w.heap.size + 1, 2, none⟩ (.slice qA b.ks.length qcap))).heap.size = D2.heap.size := by simp [World.setCell]
    have hkA13 : Kept F6 D2 (((D2.setCell ⟨w.heap.size + 1, 0, none⟩ (.int .i64 b.c)).setCell ⟨w.heap.size + 1, 1, none⟩ (.int .i64 b.n)).setCell ⟨w.heap.size + 1, 2, none⟩ (.slice qA b.ks.length qcap)) := fun x hx => by rw [Below.heap_setCell _ _ _ _ (by show x ≠ w.heap.size + 1; have := HF6.out x hx; omega), Below.heap_setCell _ _ _ _ (by show x ≠ w.heap.size + 1; have := HF6.out x hx; omega), Below.heap_setCell _ _ _ _ (by show x ≠ w.heap.size + 1; have := HF6.out x hx; omega)]
    have hkB13 : Kept Fb D2 (((D2.setCell ⟨w.heap.size + 1, 0, none⟩ (.int .i64 b.c)).setCell ⟨w.heap.size + 1, 1, none⟩ (.int .i64 b.n)).setCell ⟨w.heap.size + 1, 2, none⟩ (.slice qA b.ks.length qcap)) := fun x hx => by rw [Below.heap_setCell _ _ _ _ (by show x ≠ w.heap.size + 1; have := HFB.out x hx; omega), Below.heap_setCell _ _ _ _ (by show x ≠ w.heap.size + 1; have := HFB.out x hx; omega), Below.heap_setCell _ _ _ _ (by show x ≠ w.heap.size + 1; have := HFB.out x hx; omega)]
    go_simp
    refine hK.out _ _ (HS.out _ hC13) (fun _ => trivial) ?_
    clear hK K
    (try simp only [Act.put, List.getElem_toArray, List.getElem_cons_zero, List.getElem_cons_succ, List.setIfInBounds_toArray, List.set_cons_zero, List.set_cons_succ])
    clear yy0 ff0 yy1 ff1 yy2 ff2 yylt
    obtain ⟨D3, hX⟩ : ∃ X, X = (((D2.setCell ⟨w.heap.size + 1, 0, none⟩ (.int .i64 b.c)).setCell ⟨w.heap.size + 1, 1, none⟩ (.int .i64 b.n)).setCell ⟨w.heap.size + 1, 2, none⟩ (.slice qA b.ks.length qcap)) := ⟨_, rfl⟩
    rw [← hX] at hC13 KK13 KK1213 hz13 hkA13 hkB13 ⊢
    clear hX
    refine wpAnyB_end (by kernel_rfl) ?_
    clear hS0 hT0
    have HFin : Hid (DrewWTV w (.returned (.tuple #[v6, .agg #[.int .i64 t2.d, .int .i64 t2.i], .agg #[.int .i64 b.c, .int .i64 b.n, .slice qA b.ks.length qcap]])) D3) := by
      have hz : D3.heap.size = C2.heap.size := by rw [hz13, hz12]
      refine ⟨ys, v6, F6, t2, b, [.int .i64 b.c, .int .i64 b.n, .slice qA b.ks.length qcap], Fb, rfl, HBb.out.trans (hC13.below (by intro x hx; simp at hx; omega) HBb.out.size), ArrDt.mono (ArrDt.mono HA2.out hkA12) hkA13, ?_, VR.mono _ _ _ hkB13 (VR.mono _ _ _ hkB12 HPB.out), ?_, HNB.out⟩
      · intro x hx; rw [hz]; exact ⟨by have := (HF6.out x hx).1; omega, HU2.out x hx⟩
      · intro x hx; rw [hz]; exact ⟨by have := (HFB.out x hx).1; omega, HUB.out x hx⟩
    clear hkA12 hkA13 hkB12 hkB13 hC12 hC13 hC2 hC1 hC0
    go_wp2
    refine bodyPost_ret (results_tmp_cell_cell rfl _ _ (w.heap.size) (w.heap.size + 1) 25 28 #[.int .i64 t2.d, .int .i64 t2.i] #[.int .i64 b.c, .int .i64 b.n, .slice qA b.ks.length qcap] (0, 0) (0, 0) _ _ rfl KK1213.out Tryd.underlying25 rfl rfl rfl KK13.out Tryd.underlying28 rfl rfl) rfl ?_
    exact HFin.out
  | false =>
    go_wp2_with fail
    obtain ⟨wb, hwb⟩ : ∃ X, X = w6 := ⟨_, rfl⟩
    obtain ⟨qb, hqb⟩ : ∃ X, X = q4 + 1 := ⟨_, rfl⟩
    have hqb4 : qb ≤ 3000 := by omega
    rw [← hwb] at K26 K36 KB6 KC6 HA6 HUW6 HP6 HUa6 HB6 HR6 hk6 ⊢
    rw [← hqb] at HR6
    clear hwb hqb
    have K2b := K26
    have K3b := K36
    have KBb := KB6
    have KCb := KC6
    have HAb := HA6
    have HUWb := HUW6
    have HPb := HP6
    have HUab := HUa6
    have HRb := HR6
    have HBb := HB6
    have hkb := hk6
    clear K26 K36 KB6 KC6 HA6 HUW6 HP6 HUa6 HB6 HR6 hk6 q0
    have HS : Hid (∀ C : World, Chg [g, w.heap.size, w.heap.size + 1] wb C → (C.cell? ⟨k, 0, none⟩ = some (.int .i64 t.d) ∧ C.cell? ⟨k, 1, none⟩ = some (.int .i64 t.i) ∧ C.cell? ⟨kp, 0, none⟩ = some (.int .i64 a.c) ∧ C.cell? ⟨kp, 1, none⟩ = some (.int .i64 a.n) ∧ C.cell? ⟨kp, 2, none⟩ = some (.slice pA a.ks.length pcap))) := fun C hC => ⟨(hC.cell (Nat.lt_trans hkn hkb) (by simp; omega)).trans ((KBb.out.cell 0).trans (by simp)), (hC.cell (Nat.lt_trans hkn hkb) (by simp; omega)).trans ((KBb.out.cell 1).trans (by simp)), (hC.cell hkb (by simp; omega)).trans ((KCb.out.cell 0).trans (by simp)), (hC.cell hkb (by simp; omega)).trans ((KCb.out.cell 1).trans (by simp)), (hC.cell hkb (by simp; omega)).trans ((KCb.out.cell 2).trans (by simp))⟩
    have hC0 : Chg [g, w.heap.size, w.heap.size + 1] wb wb.drew := (Chg.refl _ _).drew
    have K2d : Hid (Blk wb.drew (w.heap.size) 25 #[.int .i64 0, .int .i64 0]) := K2b.out
    have K3d : Hid (Blk wb.drew (w.heap.size + 1) 28 #[.int .i64 0, .int .i64 0, .slice none 0 0]) := K3b.out
    have HPd : Hid (VR wb.drew a [.int .i64 a.c, .int .i64 a.n, .slice pA a.ks.length pcap] Fa) := VR.drew HPb.out
    have HUd : Hid (Under wb.drew.heap.size Fa) := HUab.out
    have HRd : Hid (Rd wb.drew g qb) := HRb.out.keep (fun b hb => rfl)
    have HAd : Hid (Arr wb.drew (DtR wb.drew) xs (.slice A1 xs.length cap1) FW) := ArrDt.drew HAb.out
    have HWd : Hid (Under wb.drew.heap.size FW) := HUWb.out
    refine wp_region_B (S := fun w' => w'.cell? ⟨k, 0, none⟩ = some (.int .i64 t.d) ∧ w'.cell? ⟨k, 1, none⟩ = some (.int .i64 t.i) ∧ w'.cell? ⟨kp, 0, none⟩ = some (.int .i64 a.c) ∧ w'.cell? ⟨kp, 1, none⟩ = some (.int .i64 a.n) ∧ w'.cell? ⟨kp, 2, none⟩ = some (.slice pA a.ks.length pcap)) (T := fun _ => True) (d := 99) (by kernel_rfl) ?_
    obtain ⟨wd, hwd⟩ : ∃ X, X = wb.drew := ⟨_, rfl⟩
    have hzd : wb.heap.size ≤ wd.heap.size := by rw [hwd]; exact Nat.le_refl _
    rw [← hwd] at hC0 K2d K3d HPd HUd HRd HAd HWd ⊢
    clear hwd
    have hS0 := HS.out _ hC0
    have hT0 : True := trivial
    refine wpAnyB_take (i := 0) (v := ?_) rfl (by decide) (by kernel_rfl) (by kernel_rfl) (by kernel_rfl) (fun _ _ _ h => h) (Or.inl ⟨by rfl, ?hy0⟩) hS0 (fun _ => hT0) ?_
    case hy0 => (intro W hSw; (try dsimp only at hSw); (try obtain ⟨hSw0, hSw1, hSw2, hSw3, hSw4⟩ := hSw); go_simp; try with_reducible rfl)
    (try simp only [Act.put, List.getElem_toArray, List.getElem_cons_zero, List.getElem_cons_succ, List.setIfInBounds_toArray, List.set_cons_zero, List.set_cons_succ])
    refine wpAnyB_take (i := 1) (v := ?_) rfl (by decide) (by kernel_rfl) (by kernel_rfl) (by kernel_rfl) (fun _ _ _ h => h) (Or.inl ⟨by rfl, ?hy1⟩) hS0 (fun _ => hT0) ?_
    case hy1 => (intro W hSw; (try dsimp only at hSw); (try obtain ⟨hSw0, hSw1, hSw2, hSw3, hSw4⟩ := hSw); go_simp; try with_reducible rfl)
    (try simp only [Act.put, List.getElem_toArray, List.getElem_cons_zero, List.getElem_cons_succ, List.setIfInBounds_toArray, List.set_cons_zero, List.set_cons_succ])
    refine wpAnyB_take (i := 3) (v := ?_) rfl (by decide) (by kernel_rfl) (by kernel_rfl) (by kernel_rfl) (fun _ _ _ h => h) (Or.inl ⟨by rfl, ?hy3⟩) hS0 (fun _ => hT0) ?_
    case hy3 => (intro W hSw; (try dsimp only at hSw); (try obtain ⟨hSw0, hSw1, hSw2, hSw3, hSw4⟩ := hSw); go_simp; try with_reducible rfl)
    (try simp only [Act.put, List.getElem_toArray, List.getElem_cons_zero, List.getElem_cons_succ, List.setIfInBounds_toArray, List.set_cons_zero, List.set_cons_succ])
    refine wpAnyB_take (i := 4) (v := ?_) rfl (by decide) (by kernel_rfl) (by kernel_rfl) (by kernel_rfl) (fun _ _ _ h => h) (Or.inl ⟨by rfl, ?hy4⟩) hS0 (fun _ => hT0) ?_
    case hy4 => (intro W hSw; (try dsimp only at hSw); (try obtain ⟨hSw0, hSw1, hSw2, hSw3, hSw4⟩ := hSw); go_simp; try with_reducible rfl)
    (try simp only [Act.put, List.getElem_toArray, List.getElem_cons_zero, List.getElem_cons_succ, List.setIfInBounds_toArray, List.set_cons_zero, List.set_cons_succ])
    refine wpAnyB_take (i := 5) (v := ?_) rfl (by decide) (by kernel_rfl) (by kernel_rfl) (by kernel_rfl) (fun _ _ _ h => h) (Or.inl ⟨by rfl, ?hy5⟩) hS0 (fun _ => hT0) ?_
    case hy5 => (intro W hSw; (try dsimp only at hSw); (try obtain ⟨hSw0, hSw1, hSw2, hSw3, hSw4⟩ := hSw); go_simp; try with_reducible rfl)
    (try simp only [Act.put, List.getElem_toArray, List.getElem_cons_zero, List.getElem_cons_succ, List.setIfInBounds_toArray, List.set_cons_zero, List.set_cons_succ])
    refine wpAnyB_ready (rs := [2]) (by kernel_rfl) (by simp) ?_
    refine AllReadyB.cons rfl (fun K hK => ?_) AllReadyB.nil
    go_simp
    go_at_call 16
    refine (spec_l1Mutate qb g wd HRd.out (by omega) xs _ FW HAd.out HWd.out HTOK.out.pos (by have := (worldOK HTOK.out.ok).len; omega) 4 (by omega) (SmallW.of (worldOK HTOK.out.ok))).mono ?_
    rintro e C1 ⟨ys, v6, F6, q6, rfl, -, ha6, hfs6, hr6, hq6, hc1⟩
    have hC1 : Chg [g, w.heap.size, w.heap.size + 1] wb C1 := hC0.trans (hc1.mono (by simp))
    have K21 := Lib.hid (K2d.out.same (hc1.block _ K2d.out.lt (by rw [List.mem_singleton]; omega)))
    have K31 := Lib.hid (K3d.out.same (hc1.block _ K3d.out.lt (by rw [List.mem_singleton]; omega)))
    have HP1 := Lib.hid (VR.mono _ _ _ (hc1.kept HUd.out (fun b hb h => by rw [List.mem_singleton] at h; exact (HFA.out b hb).2 h)) HPd.out)
    have HU1 : Hid (Under C1.heap.size Fa) := HUd.out.mono hc1.size
    have HA1 := Lib.hid ha6
    have HR1 := Lib.hid hr6
    have HF6 : Hid (∀ b ∈ F6, wd.heap.size ≤ b ∧ b < C1.heap.size) := hfs6
    have hz1 := hc1.size
    have hwdk : w.heap.size + 2 ≤ wd.heap.size ∧ g < wd.heap.size := by have := HRd.out.lt; have := K3d.out.lt; omega
    clear ha6 hfs6 hr6 hc1 K2d K3d HPd HUd HRd HAd HWd
    (try dsimp only)
    refine hK.out _ _ (HS.out _ hC1) (fun _ => trivial) ?_
    clear hK K
    (try simp only [Act.put, List.getElem_toArray, List.getElem_cons_zero, List.getElem_cons_succ, List.setIfInBounds_toArray, List.set_cons_zero, List.set_cons_succ])
    refine wpAnyB_ready (rs := [6]) (by kernel_rfl) (by simp) ?_
    refine AllReadyB.cons rfl (fun K hK => ?_) AllReadyB.nil
    go_simp
    go_at_call 17
    obtain ⟨zs, hzs⟩ := HR1.out.bytes
    obtain ⟨B, hB1, hB2', hB3⟩ := pot_big zs hzs.le hzs.len q6 (by omega)
    refine (spec_l2Mutate_all zs B (by omega) (B + 2) a C1 q6 g hzs (by omega) (by omega) (by omega) (by omega) _ Fa HP1.out HU1.out (fun b hb => (HFA.out b hb).2)).mono ?_
    rintro e C2 ⟨b, cs2, Fb, q8, rfl, hp2, hf2, hn2, -, hl2, hq2, -, hc2⟩
    obtain ⟨kvb, rfl, hbb⟩ := (VR_iff _ _ _).1 hp2
    obtain ⟨qA, qcap, rfl, -, -⟩ := hbb.form
    have hC2 : Chg [g, w.heap.size, w.heap.size + 1] wb C2 := hC1.trans (hc2.mono (by simp))
    have K22 := Lib.hid (K21.out.same (hc2.block _ K21.out.lt (by rw [List.mem_singleton]; omega)))
    have K32 := Lib.hid (K31.out.same (hc2.block _ K31.out.lt (by rw [List.mem_singleton]; omega)))
    have HA2 := Lib.hid (ArrDt.mono HA1.out (hc2.kept (fun b hb => (HF6.out b hb).2) (fun b hb h => by rw [List.mem_singleton] at h; have := (HF6.out b hb).1; omega)))
    have HU2 : Hid (Under C2.heap.size F6) := fun b hb => Nat.lt_of_lt_of_le (HF6.out b hb).2 hc2.size
    have HPB := Lib.hid hp2
    have HUB : Hid (Under C2.heap.size Fb) := fun x hx => (hf2 x hx).1
    have HFB : Hid (∀ x ∈ Fb, w3.heap.size ≤ x ∧ x ≠ g) := fun x hx => ⟨by
      rcases (hf2 x hx).2.2 with h | h
      · exact (HFA.out x h).1
      · omega, (hf2 x hx).2.1⟩
    have HNB : Hid (nodes b ≤ 600000) := by unfold Hid; omega
    clear hp2 hf2 hc2 hbb HA1 HR1 hzs hB3
    (try dsimp only)
    refine hK.out _ _ (HS.out _ hC2) (fun _ => trivial) ?_
    clear hK K
    (try simp only [Act.put, List.getElem_toArray, List.getElem_cons_zero, List.getElem_cons_succ, List.setIfInBounds_toArray, List.set_cons_zero, List.set_cons_succ])
    refine wpAnyB_ready (rs := [7]) (by kernel_rfl) (by simp) ?_
    refine AllReadyB.cons rfl (fun K hK => ?_) AllReadyB.nil
    go_simp
    (try dsimp only)
    refine hK.out _ _ (HS.out _ hC2) (fun _ => trivial) ?_
    clear hK K
    (try simp only [Act.put, List.getElem_toArray, List.getElem_cons_zero, List.getElem_cons_succ, List.setIfInBounds_toArray, List.set_cons_zero, List.set_cons_succ])
    refine wpAnyB_ready (rs := [8]) (by kernel_rfl) (by simp) ?_
    refine AllReadyB.cons rfl (fun K hK => ?_) AllReadyB.nil
    have yy0 : C2.cell? ⟨w.heap.size, 0, none⟩ = some (.int .i64 0) := (K22.out.cell 0).trans (by simp)
    have ff0 := K22.out.frozen 0
    have yy1 : C2.cell? ⟨w.heap.size, 1, none⟩ = some (.int .i64 0) := (K22.out.cell 1).trans (by simp)
    have ff1 := K22.out.frozen 1
    have yylt := K22.out.lt
    have hC12 : Chg [g, w.heap.size, w.heap.size + 1] wb ((C2.setCell ⟨w.heap.size, 0, none⟩ (.int .i64 t.d)).setCell ⟨w.heap.size, 1, none⟩ (.int .i64 t.i)) := ((hC2.set (by simp)).set (by simp))
    have KK12 : Hid (Blk ((C2.setCell ⟨w.heap.size, 0, none⟩ (.int .i64 t.d)).setCell ⟨w.heap.size, 1, none⟩ (.int .i64 t.i)) (w.heap.size) 25 #[.int .i64 t.d, .int .i64 t.i]) := ((K22.out.set_ 0 _).set_ 1 _)
    have K3212 : Hid (Blk ((C2.setCell ⟨w.heap.size, 0, none⟩ (.int .i64 t.d)).setCell ⟨w.heap.size, 1, none⟩ (.int .i64 t.i)) (w.heap.size + 1) 28 #[.int .i64 0, .int .i64 0, .slice none 0 0]) := ((K32.out.same (Below.heap_setCell _ _ _ _ (by show w.heap.size + 1 ≠ w.heap.size; omega))).same (Below.heap_setCell _ _ _ _ (by show w.heap.size + 1 ≠ w.heap.size; omega)))
    have hz12 : (((C2.setCell ⟨w.heap.size, 0, none⟩ (.int .i64 t.d)).setCell ⟨w.heap.size, 1, none⟩ (.int .i64 t.i))).heap.size = C2.heap.size := by simp [World.setCell]
    have hkA12 : Kept F6 C2 ((C2.setCell ⟨w.heap.size, 0, none⟩ (.int .i64 t.d)).setCell ⟨w.heap.size, 1, none⟩ (.int .i64 t.i)) := fun x hx => by rw [Below.heap_setCell _ _ _ _ (by show x ≠ w.heap.size; have := HF6.out x hx; omega), Below.heap_setCell _ _ _ _ (by show x ≠ w.heap.size; have := HF6.out x hx; omega)]
    have hkB12 : Kept Fb C2 ((C2.setCell ⟨w.heap.size, 0, none⟩ (.int .i64 t.d)).setCell ⟨w.heap.size, 1, none⟩ (.int .i64 t.i)) := fun x hx => by rw [Below.heap_setCell _ _ _ _ (by show x ≠ w.heap.size; have := HFB.out x hx; omega), Below.heap_setCell _ _ _ _ (by show x ≠ w.heap.size; have := HFB.out x hx; omega)]
    go_simp
    refine hK.out _ _ (HS.out _ hC12) (fun _ => trivial) ?_
    clear hK K
    (try simp only [Act.put, List.getElem_toArray, List.getElem_cons_zero, List.getElem_cons_succ, List.setIfInBounds_toArray, List.set_cons_zero, List.set_cons_succ])
    clear yy0 ff0 yy1 ff1 yylt
    obtain ⟨D2, hX⟩ : ∃ X, X = ((C2.setCell ⟨w.heap.size, 0, none⟩ (.int .i64 t.d)).setCell ⟨w.heap.size, 1, none⟩ (.int .i64 t.i)) := ⟨_, rfl⟩
    rw [← hX] at hC12 KK12 K3212 hz12 hkA12 hkB12 ⊢
    clear hX
    refine wpAnyB_ready (rs := [9]) (by kernel_rfl) (by simp) ?_
    refine AllReadyB.cons rfl (fun K hK => ?_) AllReadyB.nil
    have yy0 : D2.cell? ⟨w.heap.size + 1, 0, none⟩ = some (.int .i64 0) := (K3212.out.cell 0).trans (by simp)
    have ff0 := K3212.out.frozen 0
    have yy1 : D2.cell? ⟨w.heap.size + 1, 1, none⟩ = some (.int .i64 0) := (K3212.out.cell 1).trans (by simp)
    have ff1 := K3212.out.frozen 1
    have yy2 : D2.cell? ⟨w.heap.size + 1, 2, none⟩ = some (.slice none 0 0) := (K3212.out.cell 2).trans (by simp)
    have ff2 := K3212.out.frozen 2
    have yylt := K3212.out.lt
    have hC13 : Chg [g, w.heap.size, w.heap.size + 1] wb (((D2.setCell ⟨w.heap.size + 1, 0, none⟩ (.int .i64 b.c)).setCell ⟨w.heap.size + 1, 1, none⟩ (.int .i64 b.n)).setCell ⟨w.heap.size + 1, 2, none⟩ (.slice qA b.ks.length qcap)) := (((hC12.set (by simp)).set (by simp)).set (by simp))
    have KK13 : Hid (Blk (((D2.setCell ⟨w.heap.size + 1, 0, none⟩ (.int .i64 b.c)).setCell ⟨w.heap.size + 1, 1, none⟩ (.int .i64 b.n)).setCell ⟨w.heap.size + 1, 2, none⟩ (.slice qA b.ks.length qcap)) (w.heap.size + 1) 28 #[.int .i64 b.c, .int .i64 b.n, .slice qA b.ks.length qcap]) := (((K3212.out.set_ 0 _).set_ 1 _).set_ 2 _)
    have KK1213 : Hid (Blk (((D2.setCell ⟨w.heap.size + 1, 0, none⟩ (.int .i64 b.c)).setCell ⟨w.heap.size + 1, 1, none⟩ (.int .i64 b.n)).setCell ⟨w.heap.size + 1, 2, none⟩ (.slice qA b.ks.length qcap)) (w.heap.size) 25 #[.int .i64 t.d, .int .i64 t.i]) := (((KK12.out.same (Below.heap_setCell _ _ _ _ (by show w.heap.size ≠ w.heap.size + 1; omega))).same (Below.heap_setCell _ _ _ _ (by show w.heap.size ≠ w.heap.size + 1; omega))).same (Below.heap_setCell _ _ _ _ (by show w.heap.size ≠ w.heap.size + 1; omega)))
    have hz13 : ((((D2.setCell ⟨w.heap.size + 1, 0, none⟩ (.int .i64 b.c)).setCell ⟨w.heap.size + 1, 1, none⟩ (.int .i64 b.n)).setCell ⟨w.heap.size + 1, 2, none⟩ (.slice qA b.ks.length qcap))).heap.size = D2.heap.size := by simp [World.setCell]
    have hkA13 : Kept F6 D2 (((D2.setCell ⟨w.heap.size + 1, 0, none⟩ (.int .i64 b.c)).setCell ⟨w.heap.size + 1, 1, none⟩ (.int .i64 b.n)).setCell ⟨w.heap.size + 1, 2, none⟩ (.slice qA b.ks.length qcap)) := fun x hx => by rw [Below.heap_setCell _ _ _ _ (by show x ≠ w.heap.size + 1; have := HF6.out x hx; omega), Below.heap_setCell _ _ _ _ (by show x ≠ w.heap.size + 1; have := HF6.out x hx; omega), Below.heap_setCell _ _ _ _ (by show x ≠ w.heap.size + 1; have := HF6.out x hx; omega)]
    have hkB13 : Kept Fb D2 (((D2.setCell ⟨w.heap.size + 1, 0, none⟩ (.int .i64 b.c)).setCell ⟨w.heap.size + 1, 1, none⟩ (.int .i64 b.n)).setCell ⟨w.heap.size + 1, 2, none⟩ (.slice qA b.ks.length qcap)) := fun x hx => by rw [Below.heap_setCell _ _ _ _ (by show x ≠ w.heap.size + 1; have := HFB.out x hx; omega), Below.heap_setCell _ _ _ _ (by show x ≠ w.heap.size + 1; have := HFB.out x hx; omega), Below.heap_setCell _ _ _ _ (by show x ≠ w.heap.size + 1; have := HFB.out x hx; omega)]
    go_simp
    refine hK.out _ _ (HS.out _ hC13) (fun _ => trivial) ?_
    clear hK K
    (try simp only [Act.put, List.getElem_toArray, List.getElem_cons_zero, List.getElem_cons_succ, List.setIfInBounds_toArray, List.set_cons_zero, List.set_cons_succ])
    clear yy0 ff0 yy1 ff1 yy2 ff2 yylt
    obtain ⟨D3, hX⟩ : ∃ X, X = (((D2.setCell ⟨w.heap.size + 1, 0, none⟩ (.int .i64 b.c)).setCell ⟨w.heap.size + 1, 1, none⟩ (.int .i64 b.n)).setCell ⟨w.heap.size + 1, 2, none⟩ (.slice qA b.ks.length qcap)) := ⟨_, rfl⟩
    rw [← hX] at hC13 KK13 KK1213 hz13 hkA13 hkB13 ⊢
    clear hX
    refine wpAnyB_end (by kernel_rfl) ?_
    clear hS0 hT0
    have HFin : Hid (DrewWTV w (.returned (.tuple #[v6, .agg #[.int .i64 t.d, .int .i64 t.i], .agg #[.int .i64 b.c, .int .i64 b.n, .slice qA b.ks.length qcap]])) D3) := by
      have hz : D3.heap.size = C2.heap.size := by rw [hz13, hz12]
      refine ⟨ys, v6, F6, t, b, [.int .i64 b.c, .int .i64 b.n, .slice qA b.ks.length qcap], Fb, rfl, HBb.out.trans (hC13.below (by intro x hx; simp at hx; omega) HBb.out.size), ArrDt.mono (ArrDt.mono HA2.out hkA12) hkA13, ?_, VR.mono _ _ _ hkB13 (VR.mono _ _ _ hkB12 HPB.out), ?_, HNB.out⟩
      · intro x hx; rw [hz]; exact ⟨by have := (HF6.out x hx).1; omega, HU2.out x hx⟩
      · intro x hx; rw [hz]; exact ⟨by have := (HFB.out x hx).1; omega, HUB.out x hx⟩
    clear hkA12 hkA13 hkB12 hkB13 hC12 hC13 hC2 hC1 hC0
    go_wp2
    refine bodyPost_ret (results_tmp_cell_cell rfl _ _ (w.heap.size) (w.heap.size + 1) 25 28 #[.int .i64 t.d, .int .i64 t.i] #[.int .i64 b.c, .int .i64 b.n, .slice qA b.ks.length qcap] (0, 0) (0, 0) _ _ rfl KK1213.out Tryd.underlying25 rfl rfl rfl KK13.out Tryd.underlying28 rfl rfl) rfl ?_
    exact HFin.out
end Go.Proofs.YtgckkiencmickaaDoor

namespace Go.Proofs.YtgckkiencmickaaDoor
open Go.RowKit

set_option maxRecDepth 100000 in
set_option maxHeartbeats 1600000 in
theorem spec_DrawFormatValue (bs : List Int) (w : World) (v : Value) (F : List Nat) (hx : Arr w (ByR w) bs v F) (hf : Under w.heap.size F) :
    Calls Tryd.prog 4 #[v] w (DrewWTV w) := by
  have hB1 : Below w.heap.size w ((w.alloc (.cells #[.int .i64 0, .int .i64 0] 25)).alloc (.cells #[.int .i64 0, .int .i64 0, .slice none 0 0] 28)) := ((Below.refl _ _).alloc (Nat.le_refl _) _).alloc (by simp) _
  have K1 : Hid (Blk ((w.alloc (.cells #[.int .i64 0, .int .i64 0] 25)).alloc (.cells #[.int .i64 0, .int .i64 0, .slice none 0 0] 28)) w.heap.size 25 #[.int .i64 0, .int .i64 0]) := (Blk.new w _ _).same (Below.heap_alloc _ _ _ (by simp))
  have J1 : Hid (Blk ((w.alloc (.cells #[.int .i64 0, .int .i64 0] 25)).alloc (.cells #[.int .i64 0, .int .i64 0, .slice none 0 0] 28)) (w.heap.size + 1) 28 #[.int .i64 0, .int .i64 0, .slice none 0 0]) := blk_second w _ 28 _
  have HX : Hid (Arr ((w.alloc (.cells #[.int .i64 0, .int .i64 0] 25)).alloc (.cells #[.int .i64 0, .int .i64 0, .slice none 0 0] 28)) (ByR ((w.alloc (.cells #[.int .i64 0, .int .i64 0] 25)).alloc (.cells #[.int .i64 0, .int .i64 0, .slice none 0 0] 28))) bs v F) := ArrBy.mono hx (.of_below hB1 hf)
  have HU : Hid (Under (((w.alloc (.cells #[.int .i64 0, .int .i64 0] 25)).alloc (.cells #[.int .i64 0, .int .i64 0, .slice none 0 0] 28))).heap.size F) := hf.mono hB1.size
  have hs1 : (((w.alloc (.cells #[.int .i64 0, .int .i64 0] 25)).alloc (.cells #[.int .i64 0, .int .i64 0, .slice none 0 0] 28))).heap.size = w.heap.size + 2 := by simp
  clear hx hf
  go_enter Tryd.func4, Tryd.ntmps4
  go_wp2_with fail
  obtain ⟨w1, hw1⟩ : ∃ X, X = ((w.alloc (.cells #[.int .i64 0, .int .i64 0] 25)).alloc (.cells #[.int .i64 0, .int .i64 0, .slice none 0 0] 28)) := ⟨_, rfl⟩
  rw [← hw1] at hB1 K1 J1 HX HU hs1 ⊢
  clear hw1
  refine (spec_DrawValueValid bs w1 v F HX.out HU.out).mono ?_
  rintro e w3 ⟨xs, v4, FW, t, a, csa, Fa, rfl, hb3, hx3, hfx3, hp3, hf3, hn3⟩
  obtain ⟨kva, rfl, haa⟩ := (VR_iff _ _ _).1 hp3
  obtain ⟨pA, pcap, rfl, -, -⟩ := haa.form
  have K3 : Hid (Blk w3 w.heap.size 25 #[.int .i64 0, .int .i64 0]) := K1.out.same (hb3.block _ (by omega))
  have J3 : Hid (Blk w3 (w.heap.size + 1) 28 #[.int .i64 0, .int .i64 0, .slice none 0 0]) := J1.out.same (hb3.block _ (by omega))
  have HP3 := Lib.hid hp3
  have HX3 := Lib.hid hx3
  have hz3 := hb3.size
  have HF3 : Hid (∀ x ∈ Fa, w.heap.size + 1 < x ∧ x < w3.heap.size) := fun x hx => ⟨by have := (hf3 x hx).1; omega, (hf3 x hx).2⟩
  have HG3 : Hid (∀ x ∈ FW, w.heap.size + 1 < x ∧ x < w3.heap.size) := fun x hx => ⟨by have := (hfx3 x hx).1; omega, (hfx3 x hx).2⟩
  have HB3 : Hid (Below w.heap.size w w3) := hB1.trans (hb3.mono hB1.size)
  have HN := Lib.hid hn3
  have r0 : w3.cell? ⟨w.heap.size, 0, none⟩ = some (.int .i64 0) := (K3.out.cell 0).trans (by simp)
  have r1 : w3.cell? ⟨w.heap.size, 1, none⟩ = some (.int .i64 0) := (K3.out.cell 1).trans (by simp)
  have rf0 := K3.out.frozen 0
  have rf1 := K3.out.frozen 1
  have rlt := K3.out.lt
  have s0 : w3.cell? ⟨w.heap.size + 1, 0, none⟩ = some (.int .i64 0) := (J3.out.cell 0).trans (by simp)
  have sf0 := J3.out.frozen 0
  have s1 : w3.cell? ⟨w.heap.size + 1, 1, none⟩ = some (.int .i64 0) := (J3.out.cell 1).trans (by simp)
  have sf1 := J3.out.frozen 1
  have s2 : w3.cell? ⟨w.heap.size + 1, 2, none⟩ = some (.slice none 0 0) := (J3.out.cell 2).trans (by simp)
  have sf2 := J3.out.frozen 2
  have slt := J3.out.lt
  clear hb3 hp3 hf3 haa hx3 hfx3 hn3
  go_wp2
  clear r0 r1 rf0 rf1 rlt s0 sf0 s1 sf1 s2 sf2 slt
  have K7 : Blk (((((w3.setCell ⟨w.heap.size, 0, none⟩ (.int .i64 t.d)).setCell ⟨w.heap.size, 1, none⟩ (.int .i64 t.i)).setCell ⟨w.heap.size + 1, 0, none⟩ (.int .i64 a.c)).setCell ⟨w.heap.size + 1, 1, none⟩ (.int .i64 a.n)).setCell ⟨w.heap.size + 1, 2, none⟩ (.slice pA a.ks.length pcap)) w.heap.size 25 #[.int .i64 t.d, .int .i64 t.i] := (((((K3.out.set_ 0 _).set_ 1 _)).same (Below.heap_setCell _ _ _ _ (by show w.heap.size ≠ w.heap.size + 1; omega))).same (Below.heap_setCell _ _ _ _ (by show w.heap.size ≠ w.heap.size + 1; omega))).same (Below.heap_setCell _ _ _ _ (by show w.heap.size ≠ w.heap.size + 1; omega))
  have J6 : Blk ((w3.setCell ⟨w.heap.size, 0, none⟩ (.int .i64 t.d)).setCell ⟨w.heap.size, 1, none⟩ (.int .i64 t.i)) (w.heap.size + 1) 28 #[.int .i64 0, .int .i64 0, .slice none 0 0] := ((J3.out).same (Below.heap_setCell _ _ _ _ (by show w.heap.size + 1 ≠ w.heap.size; omega))).same (Below.heap_setCell _ _ _ _ (by show w.heap.size + 1 ≠ w.heap.size; omega))
  have J7 : Blk (((((w3.setCell ⟨w.heap.size, 0, none⟩ (.int .i64 t.d)).setCell ⟨w.heap.size, 1, none⟩ (.int .i64 t.i)).setCell ⟨w.heap.size + 1, 0, none⟩ (.int .i64 a.c)).setCell ⟨w.heap.size + 1, 1, none⟩ (.int .i64 a.n)).setCell ⟨w.heap.size + 1, 2, none⟩ (.slice pA a.ks.length pcap)) (w.heap.size + 1) 28 #[.int .i64 a.c, .int .i64 a.n, .slice pA a.ks.length pcap] := J6.three _ _ _
  refine bodyPost_ret (results_tmp_cell_cell rfl _ _ w.heap.size (w.heap.size + 1) 25 28 #[.int .i64 t.d, .int .i64 t.i] #[.int .i64 a.c, .int .i64 a.n, .slice pA a.ks.length pcap] (0, 0) (0, 0) _ _ rfl K7 Tryd.underlying25 rfl rfl rfl J7 Tryd.underlying28 rfl rfl) rfl ?_
  have hk2 : ∀ (G : List Nat), (∀ x ∈ G, w.heap.size + 1 < x ∧ x < w3.heap.size) → Kept G w3 (((((w3.setCell ⟨w.heap.size, 0, none⟩ (.int .i64 t.d)).setCell ⟨w.heap.size, 1, none⟩ (.int .i64 t.i)).setCell ⟨w.heap.size + 1, 0, none⟩ (.int .i64 a.c)).setCell ⟨w.heap.size + 1, 1, none⟩ (.int .i64 a.n)).setCell ⟨w.heap.size + 1, 2, none⟩ (.slice pA a.ks.length pcap)) := fun G hG x hx => by
    have h := (hG x hx).1
    rw [Below.heap_setCell _ _ _ _ (by show x ≠ w.heap.size + 1; omega), Below.heap_setCell _ _ _ _ (by show x ≠ w.heap.size + 1; omega), Below.heap_setCell _ _ _ _ (by show x ≠ w.heap.size + 1; omega), Below.heap_setCell _ _ _ _ (by show x ≠ w.heap.size; omega), Below.heap_setCell _ _ _ _ (by show x ≠ w.heap.size; omega)]
  have hsz : ((((((w3.setCell ⟨w.heap.size, 0, none⟩ (.int .i64 t.d)).setCell ⟨w.heap.size, 1, none⟩ (.int .i64 t.i)).setCell ⟨w.heap.size + 1, 0, none⟩ (.int .i64 a.c)).setCell ⟨w.heap.size + 1, 1, none⟩ (.int .i64 a.n)).setCell ⟨w.heap.size + 1, 2, none⟩ (.slice pA a.ks.length pcap))).heap.size = w3.heap.size := by simp [World.setCell]
  refine ⟨xs, v4, FW, t, a, [.int .i64 a.c, .int .i64 a.n, .slice pA a.ks.length pcap], Fa, rfl, below_three ((HB3.out.setCell (Nat.le_refl _) _).setCell (Nat.le_refl _) _) (Nat.le_succ _) _ _ _, ArrDt.mono HX3.out (hk2 FW HG3.out), fun x hx => ⟨by have := (HG3.out x hx).1; omega, by rw [hsz]; exact (HG3.out x hx).2⟩, VR.mono _ _ _ (hk2 Fa HF3.out) HP3.out, fun x hx => ⟨by have := (HF3.out x hx).1; omega, by rw [hsz]; exact (HF3.out x hx).2⟩, HN.out⟩
end Go.Proofs.YtgckkiencmickaaDoor

namespace Go.Proofs.YtgckkiencmickaaDoor
open Go.RowKit

theorem joinTail_cons (sep x : List UInt8) (r : List (List UInt8)) : Lib.joinTail sep (x :: r) = sep ++ x ++ Lib.joinTail sep r := by simp [Lib.joinTail]
theorem join_of {α : Type} (f : α → List UInt8) (g : Bool → List α → List UInt8) (s : UInt8) (h0 : ∀ b, g b [] = []) (h1 : ∀ x l, g true (x :: l) = f x ++ g false l) (h2 : ∀ x l, g false (x :: l) = s :: (f x ++ g false l)) (l : List α) : Lib.join (l.map f) [s] = g true l := by
  have key : ∀ l : List α, Lib.joinTail [s] (l.map f) = g false l := by
    intro l
    induction l with
    | nil => rw [h0]; rfl
    | cons x l ih => rw [List.map_cons, joinTail_cons, ih, h2]; rfl
  cases l with
  | nil => rw [h0]; rfl
  | cons x l => rw [List.map_cons, Lib.join_cons, key, h1]
/-- texts in brackets, if there are any -/
def listedT (ls : List ByteArray) : List UInt8 := if ls = [] then [] else 40 :: (Lib.join (ls.map tl) [44] ++ [41])
def tyB (xs : List Dt) (t : Ty) : ByteArray := bs (tyT xs t)
def ktB (xs : List Dt) (c : Kt) : ByteArray := bs (ktT xs c)
def dtT (xs : List Dt) (x : Dt) : List UInt8 := tl x.name ++ (61 :: ktsT xs true x.ctors)
def dtB (xs : List Dt) (x : Dt) : ByteArray := bs (dtT xs x)
end Go.Proofs.YtgckkiencmickaaDoor

namespace Go.Proofs.YtgckkiencmickaaDoor
open Go.RowKit

def ctorN (xs : List Dt) (t : Ty) (k : Int) : List UInt8 := match ctorAt xs t k with | some c => tl c.name | none => []
theorem ctorN_get {xs : List Dt} {d k : Nat} {i : Int} (hd : d < xs.length) (hk : k < xs[d].ctors.length) : ctorN xs ⟨(d : Int), i⟩ (k : Int) = tl xs[d].ctors[k].name := by
  unfold ctorN ctorAt
  simp only
  rw [ctorsAt_get hd, Int.toNat_natCast, List.getElem?_eq_getElem hk]
def lst : Bool → List (List UInt8) → List UInt8
  | _, [] => []
  | b, a :: l => (if b = true then 40 else 44) :: (a ++ lst false l)
def closeL (n : Nat) : List UInt8 := if 0 < n then [41] else []
theorem lst_join (a : List UInt8) (l : List (List UInt8)) : lst true (a :: l) = 40 :: Lib.join (a :: l) [44] := by
  have h := join_of id (fun b l => if b = true then (match l with | [] => [] | x :: l => x ++ lst false l) else lst false l) 44 (fun b => by cases b <;> rfl) (fun x l => rfl) (fun x l => rfl) (a :: l)
  rw [List.map_id] at h
  rw [h]; rfl
theorem listedT_lst (l : List (List UInt8)) : listedT (l.map bs) = lst true l ++ closeL l.length := by
  unfold listedT closeL
  cases hl : l with
  | nil => rfl
  | cons a l =>
    have e : ((a :: l).map bs).map tl = a :: l := by rw [List.map_map]; exact (List.map_congr_left (fun x _ => tl_bs x)).trans (List.map_id _)
    rw [if_neg (by simp), if_pos (by simp), e, lst_join]
    rfl
theorem closeL_len (n : Nat) : (closeL n).length ≤ 1 := by unfold closeL; split <;> simp
end Go.Proofs.YtgckkiencmickaaDoor

namespace Go.Proofs.YtgckkiencmickaaDoor
open Go.RowKit

/-- a count of nodes that stops beyond a number -/
structure Upto (v : V) (most : Int) (c : Int) : Prop where
  lo : 1 ≤ c
  hi : c ≤ nodes v
  yes : (nodes v : Int) ≤ most → c = nodes v
  no : most < nodes v → most < c
def CountPost (v : V) (most : Int) (w : World) (e : Ending) (w' : World) : Prop := ∃ c : Int, e = .returned (.int .i64 c) ∧ Upto v most c ∧ Below w.heap.size w w'
/-- contract of l2Count at one value -/
def CountS (v : V) : Prop := ∀ (most : Int) (_ : 0 ≤ most) (_ : most ≤ 1000) (w : World) (cs : List Value) (G : List Nat), VR w v cs G → Under w.heap.size G → nodes v ≤ 2000000 →
  Calls Tryd.prog 42 #[.agg cs.toArray, .int .i64 most] w (CountPost v most w)

set_option maxRecDepth 100000 in
set_option maxHeartbeats 1600000 in
theorem l2Count_of (v : V) (ih : ∀ k ∈ v.ks, CountS k) : CountS v := by
  intro most hm0 hm1 w cs G hv hg hz
  obtain ⟨kv, rfl, ha⟩ := (VR_iff _ _ _).1 hv
  obtain ⟨A4, cap4, rfl, hc3, hc4⟩ := ha.form
  have IH := Lib.hid ih
  have HZ := Lib.hid hz
  have HA := Lib.hid ha
  have HG := Lib.hid hg
  clear ha hg
  clear ih hv hz
  have hkl : v.ks.length ≤ 2000000 := by have := HZ.out; rw [nodes_ks, V.sizes_eq] at this; omega
  go_enter Tryd.func42, Tryd.ntmps42
  go_wp2
  have hB0 : Below w.heap.size w (w.alloc (.cells #[.int .i64 v.c, .int .i64 v.n, .slice A4 v.ks.length cap4] 28)) := (Below.refl _ _).alloc (Nat.le_refl _) _
  have K0 : Hid (Blk (w.alloc (.cells #[.int .i64 v.c, .int .i64 v.n, .slice A4 v.ks.length cap4] 28)) w.heap.size 28 #[.int .i64 v.c, .int .i64 v.n, .slice A4 v.ks.length cap4]) := Blk.new _ _ _
  go_loopw [5, 6] (fun nv iv wr => ∃ i : Nat, ∃ n : Int, i ≤ v.ks.length ∧ iv = .int .i64 i ∧ nv = .int .i64 n ∧ 1 ≤ n ∧ n ≤ 2000000 ∧ Hid (n ≤ 1 + (V.sizes (v.ks.take i) : Nat) ∧ (1 + ((V.sizes (v.ks.take i) : Nat) : Int) ≤ most → n = 1 + (V.sizes (v.ks.take i) : Nat)) ∧ (most < 1 + ((V.sizes (v.ks.take i) : Nat) : Int) → most < n)) ∧ Hid (Blk wr w.heap.size 28 #[.int .i64 v.c, .int .i64 v.n, .slice A4 v.ks.length cap4]) ∧ Below w.heap.size w wr) (fun _ iv _ => v.ks.length - (intOf iv).toNat)
  case atStart => exact ⟨0, 1, Nat.zero_le _, rfl, rfl, by omega, by omega, ⟨by simp [V.sizes], fun _ => by simp [V.sizes], fun h => by simpa [V.sizes] using h⟩, K0, hB0⟩
  case round =>
    clear hB0 K0
    obtain ⟨i, n, hi, rfl, rfl, hn1, hn2, HN, KV, hB⟩ := hrel
    have z2 : wr.cell? ⟨w.heap.size, 2, none⟩ = some (.slice A4 v.ks.length cap4) := (KV.out.cell 2).trans (by simp)
    have klt := KV.out.lt
    have hend : (¬ (i < v.ks.length ∧ n ≤ most)) → CountPost v most w (.returned (.int .i64 n)) wr := fun h => by
      have h1 := HN.out
      have h2 := sizes_take_le v.ks i
      have h3 := nodes_ks v
      refine ⟨n, rfl, ⟨hn1, by omega, fun hy => ?_, fun hno => ?_⟩, hB⟩
      · by_cases hil : i < v.ks.length
        · have : ¬ n ≤ most := fun hnm => h ⟨hil, hnm⟩
          have := h1.2.1 (by omega)
          omega
        · rw [List.take_of_length_le (by omega)] at h1
          have := h1.2.1 (by omega)
          omega
      · by_cases hil : i < v.ks.length
        · have : ¬ n ≤ most := fun hnm => h ⟨hil, hnm⟩
          omega
        · rw [List.take_of_length_le (by omega)] at h1
          exact h1.2.2 (by omega)
    have HEnd := Lib.hid hend
    clear hend
    by_cases hil : i < v.ks.length
    · have t1 : decide ((i : Int) < (v.ks.length : Int)) = true := by simp; omega
      by_cases hnm : n ≤ most
      · have t2 : decide (n ≤ most) = true := by simpa using hnm
        obtain ⟨b4, off4, rfl⟩ := HA.out.ptr (by omega)
        obtain ⟨A7, cap7, G7, hb7, k0, k1, k2, HV7, HG7, -, -, -⟩ := ArrV.at HA.out HG.out hB i hil
        have g1 : (0 : Int) ≤ (i : Int) := by omega
        have g2 : (i : Int) < (v.ks.length : Int) := by omega
        have hst := sizes_step hil
        have hsl := sizes_take_le v.ks (i + 1)
        have hnk := nodes_ks v
        have hz := HZ.out
        have hkz : nodes v.ks[i] ≤ 2000000 := by omega
        have HKZ := Lib.hid hkz
        have HST := Lib.hid (And.intro hst (And.intro hsl hnk))
        clear hst hsl hnk hz hkz
        go_wp2_with fail
        refine (IH.out v.ks[i] (List.getElem_mem hil) (most - n) (by omega) (by omega) wr _ G7 (HV7.out.below hB HG7.out) (HG7.out.mono hB.size) HKZ.out).mono ?_
        rintro e w' ⟨c, rfl, hu, hB'⟩
        have hB3 := hB.trans (hB'.mono hB.size)
        have KV3 := Lib.hid (KV.out.same (hB'.block _ KV.out.lt))
        have hc1 := hu.lo
        have hN2 : Hid (n + c ≤ 1 + (V.sizes (v.ks.take (i + 1)) : Nat) ∧ (1 + ((V.sizes (v.ks.take (i + 1)) : Nat) : Int) ≤ most → n + c = 1 + (V.sizes (v.ks.take (i + 1)) : Nat)) ∧ (most < 1 + ((V.sizes (v.ks.take (i + 1)) : Nat) : Int) → most < n + c)) := by
          have h1 := HN.out
          obtain ⟨h2, h3, h4⟩ := HST.out
          have h5 := hu.hi
          have h6 := hu.yes
          have h7 := hu.no
          have h8 : n = 1 + ((V.sizes (v.ks.take i) : Nat) : Int) := by
            rcases Int.lt_or_le most (1 + ((V.sizes (v.ks.take i) : Nat) : Int)) with h | h
            · have := h1.2.2 h; omega
            · exact h1.2.1 h
          refine ⟨by omega, fun hy => ?_, fun hno => ?_⟩
          · have := h6 (by omega); omega
          · have := h7 (by omega); omega
        have hn3 : n + c ≤ 2000000 := by
          have h1 := hN2.out.1
          obtain ⟨h2, h3, h4⟩ := HST.out
          have := HZ.out
          omega
        clear hu t1 t2 z2 klt k0 k1 k2 hB'
        go_wp2
        go_roundw
        case rel => exact ⟨i + 1, n + c, by omega, by go_num, rfl, by omega, hn3, hN2, KV3, hB3⟩
        case measure => (simp [intOf] <;> omega)
      · have t2 : decide (n ≤ most) = false := by simpa using hnm
        have HFin := Lib.hid (HEnd.out (fun h => hnm h.2))
        go_wp2
        go_ret
        exact HFin.out
    · have t1 : decide ((i : Int) < (v.ks.length : Int)) = false := by simp; omega
      have HFin := Lib.hid (HEnd.out (fun h => hil h.1))
      go_wp2
      go_ret
      exact HFin.out
theorem spec_l2Count : ∀ v, CountS v := V.indv l2Count_of
end Go.Proofs.YtgckkiencmickaaDoor

namespace Go.Proofs.YtgckkiencmickaaDoor
open Go.RowKit

def scanB (xs : List Dt) (d : Nat) (t : Ty) (v : V) (c : Int) : Bool := fitsV xs d t v && decide (c + nodes v ≤ 60)
/-- what valueScan gives: whether the value fits and the count stays within 60, and then the count -/
def ScanPost (xs : List Dt) (d : Nat) (t : Ty) (v : V) (c : Int) (g : Nat) (w : World) (e : Ending) (w' : World) : Prop :=
  ∃ c' : Int, e = .returned (.bool (scanB xs d t v c)) ∧ Chg [g] w w' ∧ Blk w' g 3 #[.int .i64 c'] ∧ (scanB xs d t v c = true → c' = c + nodes v) ∧ 0 ≤ c'
/-- contract of valueScan at one value -/
def ScanI (v : V) : Prop := ∀ (xs : List Dt) (_ : WorldOK xs) (d deep : Nat) (_ : d + deep = 11) (_ : 1 ≤ deep) (t : Ty) (_ : TyIn xs.length t) (w : World) (x : Value) (F : List Nat) (cs : List Value) (G : List Nat) (g : Nat) (c : Int), Arr w (DtR w) xs x F → Under w.heap.size F → VR w v cs G → Under w.heap.size G →
  Blk w g 3 #[.int .i64 c] → g ∉ F → g ∉ G → 0 ≤ c → c ≤ 60 →
  Calls Tryd.prog 36 #[x, .agg #[.int .i64 t.d, .int .i64 t.i], .agg cs.toArray, .int .i64 (deep : Int), .bool false, .pointer (some ⟨g, 0, none⟩)] w (ScanPost xs d t v c g w)
theorem isNum_nodes {v : V} (h : isNum v = true) : nodes v = 1 := by
  unfold isNum at h
  simp only [Bool.and_eq_true, decide_eq_true_eq] at h
  rw [nodes_ks, List.length_eq_zero_iff.1 h.2.2]; rfl

set_option maxRecDepth 100000 in
set_option maxHeartbeats 1600000 in
theorem valueScan_of (v : V) (ih : ∀ k ∈ v.ks, ScanI k) : ScanI v := by
  intro xs hw d deep hdd hdp t ht w x F cs G g c hx hf hv hg hgb hgF hgG hc0 hc60
  obtain ⟨kv, rfl, ha⟩ := (VR_iff _ _ _).1 hv
  obtain ⟨A, cap, rfl, hc1, hc2⟩ := hx.form
  obtain ⟨A4, cap4, rfl, hc3, hc4⟩ := ha.form
  have HW := Lib.hid hw
  have IH := Lib.hid ih
  have HGF := Lib.hid hgF
  have HGG := Lib.hid hgG
  have hgl := hgb.lt
  have gx : w.cell? ⟨g, 0, none⟩ = some (.int .i64 c) := (hgb.cell 0).trans (by simp)
  have gf := hgb.frozen 0
  have HGB := Lib.hid hgb
  have HNP : Hid (1 ≤ nodes v) := by unfold nodes; exact Nat.le_add_right _ _
  have HX := Lib.hid hx
  have HF := Lib.hid hf
  have HA := Lib.hid ha
  have HG := Lib.hid hg
  clear hx hf ha hg
  clear hw ih hv hgF hgG hgb
  by_cases hcc : 60 < c + 1
  · have t9 : decide (c + 1 > 60) = true := by simpa using hcc
    have HT : Hid (scanB xs d t v c = false) := by
      have := HNP.out
      unfold Hid scanB; rw [decide_eq_false (by omega), Bool.and_false]
    have KG : Hid (Blk (((w.setCell ⟨g, 0, none⟩ (.int .i64 (c + 1))).alloc (.cells #[.int .i64 t.d, .int .i64 t.i] 25)).alloc (.cells #[.int .i64 v.c, .int .i64 v.n, .slice A4 v.ks.length cap4] 28)) g 3 #[.int .i64 (c + 1)]) := by
      have h1 : Blk (w.setCell ⟨g, 0, none⟩ (.int .i64 (c + 1))) g 3 #[.int .i64 (c + 1)] := HGB.out.set_ 0 (.int .i64 (c + 1))
      exact (h1.same (Below.heap_alloc _ _ _ h1.lt)).same (Below.heap_alloc _ _ _ (by have := h1.lt; simp; omega))
    have HCG : Hid (Chg [g] w (((w.setCell ⟨g, 0, none⟩ (.int .i64 (c + 1))).alloc (.cells #[.int .i64 t.d, .int .i64 t.i] 25)).alloc (.cells #[.int .i64 v.c, .int .i64 v.n, .slice A4 v.ks.length cap4] 28))) := (((Chg.refl [g] w).set (by simp)).step ((Below.refl _ _).alloc (Nat.le_refl _) _)).step ((Below.refl _ _).alloc (Nat.le_refl _) _)
    have hfin : ScanPost xs d t v c g w (.returned (.bool false)) (((w.setCell ⟨g, 0, none⟩ (.int .i64 (c + 1))).alloc (.cells #[.int .i64 t.d, .int .i64 t.i] 25)).alloc (.cells #[.int .i64 v.c, .int .i64 v.n, .slice A4 v.ks.length cap4] 28)) := ⟨c + 1, by rw [HT.out], HCG.out, KG.out, (fun h => by rw [HT.out] at h; cases h), by omega⟩
    have HFin := Lib.hid hfin
    clear hfin
    go_enter Tryd.func36, Tryd.ntmps36
    go_wp2
    go_ret
    exact HFin.out
  · have t9 : decide (c + 1 > 60) = false := by simp; omega
    cases d with
    | zero =>
      have t8 : decide ((deep : Int) > 10) = true := by simp; omega
      have HT : Hid (scanB xs 0 t v c = false) := rfl
      have KG : Hid (Blk (((w.setCell ⟨g, 0, none⟩ (.int .i64 (c + 1))).alloc (.cells #[.int .i64 t.d, .int .i64 t.i] 25)).alloc (.cells #[.int .i64 v.c, .int .i64 v.n, .slice A4 v.ks.length cap4] 28)) g 3 #[.int .i64 (c + 1)]) := by
        have h1 : Blk (w.setCell ⟨g, 0, none⟩ (.int .i64 (c + 1))) g 3 #[.int .i64 (c + 1)] := HGB.out.set_ 0 (.int .i64 (c + 1))
        exact (h1.same (Below.heap_alloc _ _ _ h1.lt)).same (Below.heap_alloc _ _ _ (by have := h1.lt; simp; omega))
      have HCG : Hid (Chg [g] w (((w.setCell ⟨g, 0, none⟩ (.int .i64 (c + 1))).alloc (.cells #[.int .i64 t.d, .int .i64 t.i] 25)).alloc (.cells #[.int .i64 v.c, .int .i64 v.n, .slice A4 v.ks.length cap4] 28))) := (((Chg.refl [g] w).set (by simp)).step ((Below.refl _ _).alloc (Nat.le_refl _) _)).step ((Below.refl _ _).alloc (Nat.le_refl _) _)
      have hfin : ScanPost xs 0 t v c g w (.returned (.bool false)) (((w.setCell ⟨g, 0, none⟩ (.int .i64 (c + 1))).alloc (.cells #[.int .i64 t.d, .int .i64 t.i] 25)).alloc (.cells #[.int .i64 v.c, .int .i64 v.n, .slice A4 v.ks.length cap4] 28)) := ⟨c + 1, by rw [HT.out], HCG.out, KG.out, (fun h => by rw [HT.out] at h; cases h), by omega⟩
      have HFin := Lib.hid hfin
      clear hfin
      go_enter Tryd.func36, Tryd.ntmps36
      go_wp2
      go_ret
      exact HFin.out
    | succ d =>
    have t8 : decide ((deep : Int) > 10) = false := by simp; omega
    obtain ⟨W3, hW3⟩ : ∃ W3, W3 = (((w.setCell ⟨g, 0, none⟩ (.int .i64 (c + 1))).alloc (.cells #[.int .i64 t.d, .int .i64 t.i] 25)).alloc (.cells #[.int .i64 v.c, .int .i64 v.n, .slice A4 v.ks.length cap4] 28)) := ⟨_, rfl⟩
    have KT : Hid (Blk W3 w.heap.size 25 #[.int .i64 t.d, .int .i64 t.i]) := by
      rw [hW3]
      have h := Blk.new (w.setCell ⟨g, 0, none⟩ (.int .i64 (c + 1))) 25 #[.int .i64 t.d, .int .i64 t.i]
      rw [show ((w.setCell ⟨g, 0, none⟩ (.int .i64 (c + 1)))).heap.size = w.heap.size from by simp [World.setCell]] at h
      exact h.same (Below.heap_alloc _ _ _ (by simp [World.setCell]))
    have KV : Hid (Blk W3 (w.heap.size + 1) 28 #[.int .i64 v.c, .int .i64 v.n, .slice A4 v.ks.length cap4]) := by
      rw [hW3]
      have h := Blk.new ((w.setCell ⟨g, 0, none⟩ (.int .i64 (c + 1))).alloc (.cells #[.int .i64 t.d, .int .i64 t.i] 25)) 28 #[.int .i64 v.c, .int .i64 v.n, .slice A4 v.ks.length cap4]
      rw [World.size_alloc, show ((w.setCell ⟨g, 0, none⟩ (.int .i64 (c + 1)))).heap.size = w.heap.size from by simp [World.setCell]] at h
      exact h
    have KG : Hid (Blk W3 g 3 #[.int .i64 (c + 1)]) := by
      rw [hW3]
      have h1 : Blk (w.setCell ⟨g, 0, none⟩ (.int .i64 (c + 1))) g 3 #[.int .i64 (c + 1)] := HGB.out.set_ 0 (.int .i64 (c + 1))
      exact (h1.same (Below.heap_alloc _ _ _ h1.lt)).same (Below.heap_alloc _ _ _ (by have := h1.lt; simp; omega))
    have HCG : Hid (Chg [g] w W3) := by
      rw [hW3]; exact (((Chg.refl [g] w).set (by simp)).step ((Below.refl _ _).alloc (Nat.le_refl _) _)).step ((Below.refl _ _).alloc (Nat.le_refl _) _)
    have HX3 : Hid (Arr W3 (DtR W3) xs (.slice A xs.length cap) F) := ArrDt.mono HX.out (HCG.out.kept HF.out (fun b hb h => HGF.out (by rw [← List.mem_singleton.1 h]; exact hb)))
    have HF3 := Lib.hid (HF.out.mono HCG.out.size)
    have HA3 : Hid (Arr W3 (VR W3) v.ks (.slice A4 v.ks.length cap4) G) := ArrV.mono HA.out (HCG.out.kept HG.out (fun b hb h => HGG.out (by rw [← List.mem_singleton.1 h]; exact hb)))
    have HG3 := Lib.hid (HG.out.mono HCG.out.size)
    have y0 : W3.cell? ⟨w.heap.size, 0, none⟩ = some (.int .i64 t.d) := (KT.out.cell 0).trans (by simp)
    have y1 : W3.cell? ⟨w.heap.size, 1, none⟩ = some (.int .i64 t.i) := (KT.out.cell 1).trans (by simp)
    have z0 : W3.cell? ⟨w.heap.size + 1, 0, none⟩ = some (.int .i64 v.c) := (KV.out.cell 0).trans (by simp)
    have z1 : W3.cell? ⟨w.heap.size + 1, 1, none⟩ = some (.int .i64 v.n) := (KV.out.cell 1).trans (by simp)
    have z2 : W3.cell? ⟨w.heap.size + 1, 2, none⟩ = some (.slice A4 v.ks.length cap4) := (KV.out.cell 2).trans (by simp)
    have klt := KT.out.lt
    have klt2 := KV.out.lt
    have hgl3 := KG.out.lt
    rcases ht with ht | ⟨q, r, rfl, hql, hrl⟩
    · have t0 : (t.d == -1) = true := by simp [ht]
      have hfi := fitsV_int (xs := xs) (d := d) (v := v) ht
      have hEnd : ∀ r : Bool, isNum v = r → ScanPost xs (d + 1) t v c g w (.returned (.bool r)) W3 := fun r hr => by
        have hT : scanB xs (d + 1) t v c = r := by
          unfold scanB
          rw [hfi, hr]
          cases r with
          | false => rfl
          | true => rw [isNum_nodes hr, Bool.true_and]; exact decide_eq_true (by omega)
        exact ⟨c + 1, by rw [hT], HCG.out, KG.out, (fun h => by rw [hT] at h; rw [isNum_nodes (hr.trans h)]; rfl), by omega⟩
      have HEnd := Lib.hid hEnd
      clear hEnd hfi ht
      cases q0 : (v.c == -1) with
      | false =>
        have HFin := Lib.hid (HEnd.out false (by unfold isNum; rw [q0]; rfl))
        go_enter Tryd.func36, Tryd.ntmps36
        go_wp2_with fail
        rw [← hW3]
        clear hW3
        go_wp2
        go_ret
        exact HFin.out
      | true =>
        cases q1 : withinB v.n 0 9 with
        | false =>
          have HFin := Lib.hid (HEnd.out false (by unfold isNum; rw [q0, q1]; rfl))
          have HQ1 := Lib.hid q1
          clear q1
          go_enter Tryd.func36, Tryd.ntmps36
          go_wp2_with fail
          rw [← hW3]
          clear hW3
          refine (impl_within v.n 0 9 W3).mono ?_
          rintro e w5 ⟨rfl, rfl⟩
          rw [HQ1.out]
          go_wp2
          go_ret
          exact HFin.out
        | true =>
          by_cases q2 : v.ks.length = 0
          · have HFin := Lib.hid (HEnd.out true (by unfold isNum; rw [q0, q1, decide_eq_true q2]; rfl))
            have t3 : ((v.ks.length : Int) == 0) = true := by simp [q2]
            have HQ1 := Lib.hid q1
            clear q1 q2
            go_enter Tryd.func36, Tryd.ntmps36
            go_wp2_with fail
            rw [← hW3]
            clear hW3
            refine (impl_within v.n 0 9 W3).mono ?_
            rintro e w5 ⟨rfl, rfl⟩
            rw [HQ1.out]
            go_wp2
            go_ret
            exact HFin.out
          · have HFin := Lib.hid (HEnd.out false (by unfold isNum; rw [q0, q1, decide_eq_false q2]; rfl))
            have t3 : ((v.ks.length : Int) == 0) = false := by simp; simpa using q2
            have HQ1 := Lib.hid q1
            clear q1 q2
            go_enter Tryd.func36, Tryd.ntmps36
            go_wp2_with fail
            rw [← hW3]
            clear hW3
            refine (impl_within v.n 0 9 W3).mono ?_
            rintro e w5 ⟨rfl, rfl⟩
            rw [HQ1.out]
            go_wp2
            go_ret
            exact HFin.out
    · have t0 : ((q : Int) == -1) = false := by rw [beq_eq_false_iff_ne]; omega
      have hfd := fitsV_data (xs := xs) (d := d) (v := v) (t := ⟨(q : Int), (r : Int)⟩) (by show ¬ ((q : Int) = -1); omega)
      have HFD := Lib.hid hfd
      clear hfd
      have HBad : Hid (∀ W c', fitsV xs (d + 1) ⟨(q : Int), (r : Int)⟩ v = false ∨ (60 : Int) < c + nodes v → Chg [g] w W → Blk W g 3 #[.int .i64 c'] → 0 ≤ c' → ScanPost xs (d + 1) ⟨(q : Int), (r : Int)⟩ v c g w (.returned (.bool false)) W) := fun W c' h hC hK hc' => by
        have hT : scanB xs (d + 1) ⟨(q : Int), (r : Int)⟩ v c = false := by
          unfold scanB
          rcases h with h | h
          · rw [h]; rfl
          · rw [decide_eq_false (by omega), Bool.and_false]
        exact ⟨c', by rw [hT], hC, hK, (fun h => by rw [hT] at h; cases h), hc'⟩
      go_enter Tryd.func36, Tryd.ntmps36
      go_wp2_with fail
      rw [← hW3]
      clear hW3
      cases q0 : (v.n == 0) with
      | false =>
        have t1 : (v.n != 0) = true := by rw [bne, q0]; rfl
        have HFin : Hid (∀ n, ScanPost xs (d + 1) ⟨(q : Int), (r : Int)⟩ v c g w (.returned (.bool false)) (W3.drewN n)) := fun n => HBad.out _ (c + 1) (.inl (by rw [HFD.out, q0]; rfl)) (HCG.out.drewN n) KG.out (by omega)
        clear q0
        go_quiet (fail)
        go_wp2
        go_ret
        exact HFin.out _
      | true =>
        have t1 : (v.n != 0) = false := by rw [bne, q0]; rfl
        have h1 : fitsV xs (d + 1) ⟨(q : Int), (r : Int)⟩ v = (hasB (ctorsL xs ⟨(q : Int), (r : Int)⟩) v.c && (decide (v.ks.length = (argsOf xs ⟨(q : Int), (r : Int)⟩ v.c).length) && zipAll (fitsV xs d) (argsOf xs ⟨(q : Int), (r : Int)⟩ v.c) v.ks)) := by rw [HFD.out, q0, Bool.true_and]
        have H1 := Lib.hid h1
        have HIW : Hid (InWorld xs.length ⟨(q : Int), (r : Int)⟩) := .inr ⟨q, rfl, hql⟩
        clear h1 q0
        have hBr := Below.refl W3.heap.size W3
        have hkeep : ∀ U U' : World, (U.cell? ⟨w.heap.size, 0, none⟩ = some (.int .i64 (q : Int)) ∧ U.cell? ⟨w.heap.size, 1, none⟩ = some (.int .i64 (r : Int)) ∧ U.cell? ⟨w.heap.size + 1, 0, none⟩ = some (.int .i64 v.c) ∧ U.cell? ⟨w.heap.size + 1, 1, none⟩ = some (.int .i64 v.n) ∧ U.cell? ⟨w.heap.size + 1, 2, none⟩ = some (.slice A4 v.ks.length cap4)) → Below U.heap.size U U' → W3.heap.size ≤ U.heap.size → (U'.cell? ⟨w.heap.size, 0, none⟩ = some (.int .i64 (q : Int)) ∧ U'.cell? ⟨w.heap.size, 1, none⟩ = some (.int .i64 (r : Int)) ∧ U'.cell? ⟨w.heap.size + 1, 0, none⟩ = some (.int .i64 v.c) ∧ U'.cell? ⟨w.heap.size + 1, 1, none⟩ = some (.int .i64 v.n) ∧ U'.cell? ⟨w.heap.size + 1, 2, none⟩ = some (.slice A4 v.ks.length cap4)) := fun U U' h hUU hU => ⟨(hUU.cell (Nat.lt_of_lt_of_le (klt) hU)).trans h.1, (hUU.cell (Nat.lt_of_lt_of_le (klt) hU)).trans h.2.1, (hUU.cell (Nat.lt_of_lt_of_le (klt2) hU)).trans h.2.2.1, (hUU.cell (Nat.lt_of_lt_of_le (klt2) hU)).trans h.2.2.2.1, (hUU.cell (Nat.lt_of_lt_of_le (klt2) hU)).trans h.2.2.2.2⟩
        have HKeep := Lib.hid hkeep
        clear hkeep
        go_region_held3 (fun w' => w'.cell? ⟨w.heap.size, 0, none⟩ = some (.int .i64 (q : Int)) ∧ w'.cell? ⟨w.heap.size, 1, none⟩ = some (.int .i64 (r : Int)) ∧ w'.cell? ⟨w.heap.size + 1, 0, none⟩ = some (.int .i64 v.c) ∧ w'.cell? ⟨w.heap.size + 1, 1, none⟩ = some (.int .i64 v.n) ∧ w'.cell? ⟨w.heap.size + 1, 2, none⟩ = some (.slice A4 v.ks.length cap4)) (first | assumption | (exact ⟨y0, y1, z0, z1, z2⟩) | (exact HKeep.out W3.drew w4 ⟨y0, y1, z0, z1, z2⟩ hb4 (Nat.le_refl _)) | (exact HKeep.out w4 w5 (by assumption) hb5 hlew4)) (first | (go_at_call 52; ((with_reducible refine (impl_ctorsOf xs ⟨(q : Int), (r : Int)⟩ _ _ F (ArrDt.below HX3.out hBr.drew HF3.out) (HF3.out.mono hBr.drew.size) HW.out HIW.out).mono ?_); rintro e w4 ⟨v4, F4, rfl, hb4, ha4, -, hfs4⟩); have hlew4 : W3.heap.size ≤ w4.heap.size := hb4.size) | (go_at_call 51; ((with_reducible refine (impl_has (ctorsL xs ⟨(q : Int), (r : Int)⟩) v.c _ _ F4 ha4 hfs4.under).mono ?_); rintro e w5 ⟨rfl, hb5⟩)))
        have hBa := hBr.drew.trans (hb4.mono hBr.drew.size)
        have hB5 := hBa.trans (hb5.mono hBa.size)
        have KT5 := Lib.hid (KT.out.same (hB5.block _ KT.out.lt))
        have KV5 := Lib.hid (KV.out.same (hB5.block _ KV.out.lt))
        have KG5 := Lib.hid (KG.out.same (hB5.block _ KG.out.lt))
        have HCG5 := Lib.hid (HCG.out.step hB5)
        have HX5 := Lib.hid (ArrDt.below HX3.out hB5 HF3.out)
        have HF5 := Lib.hid (HF3.out.mono hB5.size)
        have HA5 := Lib.hid (ArrV.below HA3.out hB5 HG3.out)
        have HG5 := Lib.hid (HG3.out.mono hB5.size)
        clear HKeep KT KV KG HCG HX3 HF3 HA3 HG3 y0 y1 z0 z1 z2 klt klt2 hBa hb4 hb5 ha4 hfs4 hBr t1 hgl3 gx gf
        cases e1 : hasB (ctorsL xs ⟨(q : Int), (r : Int)⟩) v.c with
        | false =>
          have HFin := Lib.hid (HBad.out w5 (c + 1) (.inl (by rw [H1.out, e1]; rfl)) HCG5.out KG5.out (by omega))
          clear e1
          go_wp2
          go_ret
          exact HFin.out
        | true =>
          obtain ⟨q', k, e2, hvc, hq', hkl⟩ := mem_ctorsL (xs := xs) (t := ⟨(q : Int), (r : Int)⟩) (.inr ⟨q, rfl, hql⟩) ((hasB_iff _ _).1 e1)
          obtain rfl : q = q' := Int.ofNat.inj e2
          have h2 := H1.out
          rw [e1, Bool.true_and, hvc, argsOf_get hql hkl] at h2
          have H2 := Lib.hid h2
          clear h2 e1 e2
          have HAI := Lib.hid (fun a ha => argTy_in (HW.out.ctor hql hkl) (i := (r : Int)) (by omega) (by omega) (a := a) ha)
          have HLA := Lib.hid (HW.out.ctor hql hkl).args
          have y0 : w5.cell? ⟨w.heap.size, 0, none⟩ = some (.int .i64 (q : Int)) := (KT5.out.cell 0).trans (by simp)
          have y1 : w5.cell? ⟨w.heap.size, 1, none⟩ = some (.int .i64 (r : Int)) := (KT5.out.cell 1).trans (by simp)
          have z0 : w5.cell? ⟨w.heap.size + 1, 0, none⟩ = some (.int .i64 v.c) := (KV5.out.cell 0).trans (by simp)
          have klt := KT5.out.lt
          have klt2 := KV5.out.lt
          have HVC := Lib.hid hvc
          clear hvc
          go_wp2_with fail
          rw [HVC.out]
          refine (impl_argTypes xs q k (r : Int) hql hkl w5 _ F HX5.out HF5.out HLA.out).mono ?_
          rintro e w6 ⟨v6, F6, rfl, hb6, ha6, -, hfs6⟩
          have KV6 := Lib.hid (KV5.out.same (hb6.block _ KV5.out.lt))
          have KG6 := Lib.hid (KG5.out.same (hb6.block _ KG5.out.lt))
          have HCG6 := Lib.hid (HCG5.out.step hb6)
          generalize hass : argsL xs[q].ctors[k] (r : Int) = ls at *
          clear hass
          obtain ⟨A6, cap6, rfl, hd3, hd4⟩ := ha6.form
          have HA6 : Hid (Arr w6 (TyR w6) ls (.slice A6 ls.length cap6) F6 ∧ Under w6.heap.size F6) := ⟨ha6, hfs6.under⟩
          have HN6 : Hid (∀ b ∈ F6, b ∉ [g]) := fun b hb h => by
            have h1 := (hfs6 b hb).1
            rw [List.mem_singleton.1 h] at h1
            have := KG5.out.lt
            omega
          clear ha6 hfs6 KT5 KV5 KG5 HCG5 HX5 HF5 HA5 HG5 y0 y1 z0 klt klt2 hB5 hb6
          have z2 : w6.cell? ⟨w.heap.size + 1, 2, none⟩ = some (.slice A4 v.ks.length cap4) := (KV6.out.cell 2).trans (by simp)
          have klt2 := KV6.out.lt
          by_cases hln : v.ks.length = ls.length
          · have t2 : ((ls.length : Int) != (v.ks.length : Int)) = false := by simp [hln]
            have h3 : fitsV xs (d + 1) ⟨(q : Int), (r : Int)⟩ v = zipAll (fitsV xs d) ls v.ks := by rw [H2.out, decide_eq_true hln, Bool.true_and]
            have H3 := Lib.hid h3
            have HLN := Lib.hid hln
            clear h3 hln
            go_wp2
            clear z2 klt2 t2
            go_loopw [90] (fun iv wr => ∃ i : Nat, ∃ ci : Int, i ≤ v.ks.length ∧ iv = .int .i64 i ∧ 0 ≤ ci ∧ ci ≤ 60 ∧ Hid (ci = c + 1 + (V.sizes (v.ks.take i) : Nat)) ∧ Hid (fitsV xs (d + 1) ⟨(q : Int), (r : Int)⟩ v = zipAll (fitsV xs d) (ls.drop i) (v.ks.drop i)) ∧ Hid (Blk wr g 3 #[.int .i64 ci]) ∧ Hid (Chg [g] w wr) ∧ Hid (Arr wr (TyR wr) ls (.slice A6 ls.length cap6) F6 ∧ Under wr.heap.size F6)) (fun iv _ => v.ks.length - (intOf iv).toNat)
            case atStart => exact ⟨0, c + 1, Nat.zero_le _, rfl, by omega, by omega, (by show c + 1 = c + 1 + ((0 : Nat) : Int); omega), H3, KG6, HCG6, HA6⟩
            case round =>
              clear KG6 HCG6 HA6 KV6
              obtain ⟨i, ci, hi, rfl, hci0, hci1, HCI, HR, KG, HCG, HA6⟩ := hrel
              by_cases hik : i < v.ks.length
              · have hil : i < ls.length := by rw [← HLN.out]; exact hik
                obtain ⟨b6, off6, rfl⟩ := HA6.out.1.ptr (by omega)
                have HAw := Lib.hid (ArrV.mono HA.out (HCG.out.kept HG.out (fun b hb h => HGG.out (by rw [← List.mem_singleton.1 h]; exact hb))))
                have HGw := Lib.hid (HG.out.mono HCG.out.size)
                have HXw := Lib.hid (ArrDt.mono HX.out (HCG.out.kept HF.out (fun b hb h => HGF.out (by rw [← List.mem_singleton.1 h]; exact hb))))
                have HFw := Lib.hid (HF.out.mono HCG.out.size)
                obtain ⟨b4, off4, rfl⟩ := HAw.out.ptr (by omega)
                obtain ⟨A7, cap7, G7, hb7, k0, k1, k2, HV7, HG7, hG7G, -, -⟩ := ArrV.at HAw.out HGw.out (Below.refl _ _) i hik
                have HN7 : Hid (g ∉ G7) := fun h => HGG.out (hG7G _ h)
                clear hG7G
                have g1 : (0 : Int) ≤ (i : Int) := by omega
                have g2 : (i : Int) < (ls.length : Int) := by omega
                have g3 : (i : Int) < (v.ks.length : Int) := by omega
                have hstep := HR.out
                rw [zipAll_step hil hik] at hstep
                have HST := Lib.hid hstep
                clear hstep
                have hwr : IntKind.i64.wrap ((deep : Int) + 1) = (deep : Int) + 1 := IntWalk.i64_in _ (by omega)
                obtain ⟨W7, hW7⟩ : ∃ W7, W7 = wr.alloc (.cells #[.int .i64 v.ks[i].c, .int .i64 v.ks[i].n, .slice A7 v.ks[i].ks.length cap7] 28) := ⟨_, rfl⟩
                have hb77 : Below wr.heap.size wr W7 := by rw [hW7]; exact (Below.refl _ _).alloc (Nat.le_refl _) _
                have KX : Hid (Blk W7 wr.heap.size 28 #[.int .i64 v.ks[i].c, .int .i64 v.ks[i].n, .slice A7 v.ks[i].ks.length cap7]) := by rw [hW7]; exact Blk.new _ _ _
                have KG7 := Lib.hid (KG.out.same (hb77.block _ KG.out.lt))
                have HCG7 := Lib.hid (HCG.out.step hb77)
                have HX7 := Lib.hid (ArrDt.below HXw.out hb77 HFw.out)
                have HF7 := Lib.hid (HFw.out.mono hb77.size)
                have HV77 := Lib.hid (HV7.out.below hb77 HG7.out)
                have HG77 := Lib.hid (HG7.out.mono hb77.size)
                have HA67 : Hid (Arr W7 (TyR W7) ls (.slice (some ⟨b6, off6, none⟩) ls.length cap6) F6 ∧ Under W7.heap.size F6) := ⟨ArrTy.below HA6.out.1 hb77 HA6.out.2, HA6.out.2.mono hb77.size⟩
                have hgw : g < wr.heap.size := KG.out.lt
                have hne7 : wr.heap.size ≠ g := by omega
                go_wp2_with fail
                rw [← hW7]
                clear hW7 k0 k1 k2 hb7 HAw HGw HXw HFw HV7 HG7 KG HCG HA6
                obtain ⟨hb6, a0, a1⟩ := ArrTy.at HA67.out.1 HA67.out.2 (Below.refl _ _) i hil
                have hb6n : b6 ≠ g := by
                  obtain ⟨b', off', cs', G', e', hb', -⟩ := HA67.out.1.get TyR_len hil
                  cases e'
                  exact fun e => HN6.out _ hb' (by rw [e]; exact List.mem_singleton.2 rfl)
                have k0 : W7.cell? ⟨wr.heap.size, 0, none⟩ = some (.int .i64 v.ks[i].c) := (KX.out.cell 0).trans (by simp)
                have k1 : W7.cell? ⟨wr.heap.size, 1, none⟩ = some (.int .i64 v.ks[i].n) := (KX.out.cell 1).trans (by simp)
                have k2 : W7.cell? ⟨wr.heap.size, 2, none⟩ = some (.slice A7 v.ks[i].ks.length cap7) := (KX.out.cell 2).trans (by simp)
                have kxl := KX.out.lt
                have HNE := Lib.hid (show b6 ∉ [g] from fun h => hb6n (List.mem_singleton.1 h))
                have HNE7 := Lib.hid (show wr.heap.size ∉ [g] from fun h => hne7 (List.mem_singleton.1 h))
                clear hb6n hne7 hgw
                have HCALL := Lib.hid (IH.out v.ks[i] (List.getElem_mem hik) xs HW.out d (deep + 1) (by omega) (by omega) ls[i] (HAI.out _ (List.getElem_mem hil)) W7.drew _ F _ G7 g ci (ArrDt.drew HX7.out) HF7.out HV77.out.drew HG77.out KG7.out HGF.out HN7.out hci0 hci1)
                rw [show ((deep + 1 : Nat) : Int) = (deep : Int) + 1 by omega] at HCALL
                go_region_held3 (fun w' => w'.cell? ⟨b6, off6 + i * 2, none⟩ = some (.int .i64 ls[i].d) ∧ w'.cell? ⟨b6, off6 + i * 2 + 1, none⟩ = some (.int .i64 ls[i].i) ∧ w'.cell? ⟨wr.heap.size, 0, none⟩ = some (.int .i64 v.ks[i].c) ∧ w'.cell? ⟨wr.heap.size, 1, none⟩ = some (.int .i64 v.ks[i].n) ∧ w'.cell? ⟨wr.heap.size, 2, none⟩ = some (.slice A7 v.ks[i].ks.length cap7)) (first | assumption | (exact ⟨a0, a1, k0, k1, k2⟩) | (exact ⟨(hC'.cell hb6 HNE.out).trans a0, (hC'.cell hb6 HNE.out).trans a1, (hC'.cell kxl HNE7.out).trans k0, (hC'.cell kxl HNE7.out).trans k1, (hC'.cell kxl HNE7.out).trans k2⟩)) (first | (go_at_call 36; ((with_reducible refine HCALL.out.mono ?_); rintro e w' ⟨c', rfl, hC', hK', hy', hp'⟩)))
                have hC2 := hC'.undrew
                have HCG8 := Lib.hid (HCG7.out.trans hC2)
                have HK8 := Lib.hid hK'
                have HA68 : Hid (Arr w' (TyR w') ls (.slice (some ⟨b6, off6, none⟩) ls.length cap6) F6 ∧ Under w'.heap.size F6) := ⟨ArrTy.mono HA67.out.1 (hC2.kept HA67.out.2 HN6.out), HA67.out.2.mono hC2.size⟩
                clear hwr hC' hC2 hK' a0 a1 k0 k1 k2
                cases e3 : scanB xs d ls[i] v.ks[i] ci with
                | false =>
                  have HFin := Lib.hid (HBad.out w' c' (by
                    unfold scanB at e3
                    rw [Bool.and_eq_false_iff] at e3
                    rcases e3 with h | h
                    · left; rw [HST.out, h]; rfl
                    · right
                      have h1 := of_decide_eq_false h
                      have h2 := HCI.out
                      have h3 := sizes_step hik
                      have h4 := sizes_take_le v.ks (i + 1)
                      have h5 := nodes_ks v
                      omega) HCG8.out HK8.out hp')
                  clear e3 hy'
                  go_wp2
                  go_ret
                  exact HFin.out
                | true =>
                  have hcc2 := hy' e3
                  unfold scanB at e3
                  rw [Bool.and_eq_true] at e3
                  have h60 := of_decide_eq_true e3.2
                  have hR2 : Hid (fitsV xs (d + 1) ⟨(q : Int), (r : Int)⟩ v = zipAll (fitsV xs d) (ls.drop (i + 1)) (v.ks.drop (i + 1))) := by rw [HST.out, e3.1, Bool.true_and]; rfl
                  have hCI2 : Hid (c' = c + 1 + (V.sizes (v.ks.take (i + 1)) : Nat)) := by
                    have h2 := HCI.out
                    have h3 := sizes_step hik
                    unfold Hid
                    omega
                  have hc60' : c' ≤ 60 := by omega
                  clear e3 hy' hcc2 h60
                  go_wp2
                  go_roundw
                  case rel => exact ⟨i + 1, c', by omega, by go_num, hp', hc60', hCI2, hR2, HK8, HCG8, HA68⟩
                  case measure => (simp [intOf] <;> omega)
              · have hT : scanB xs (d + 1) ⟨(q : Int), (r : Int)⟩ v c = true := by
                  unfold scanB
                  have h1 := HCI.out
                  have h5 := nodes_ks v
                  rw [List.take_of_length_le (by omega)] at h1
                  rw [HR.out, zipAll_end (by have := HLN.out; omega), Bool.true_and]
                  exact decide_eq_true (by omega)
                have hfin : ScanPost xs (d + 1) ⟨(q : Int), (r : Int)⟩ v c g w (.returned (.bool true)) wr := ⟨ci, by rw [hT], HCG.out, KG.out, fun _ => by
                  have h1 := HCI.out
                  have h5 := nodes_ks v
                  rw [List.take_of_length_le (by omega)] at h1
                  omega, hci0⟩
                have HFin := Lib.hid hfin
                clear hfin hT
                go_wp2
                go_ret
                exact HFin.out
          · have t2 : ((ls.length : Int) != (v.ks.length : Int)) = true := by rw [bne_iff_ne]; omega
            have HFin := Lib.hid (HBad.out w6 (c + 1) (.inl (by rw [H2.out, decide_eq_false hln]; rfl)) HCG6.out KG6.out (by omega))
            clear hln
            go_wp2
            go_ret
            exact HFin.out
theorem impl_valueScan : ∀ v, ScanI v := V.indv valueScan_of
end Go.Proofs.YtgckkiencmickaaDoor

namespace Go.Proofs.YtgckkiencmickaaDoor
open Go.RowKit

set_option maxRecDepth 100000 in
set_option maxHeartbeats 1600000 in
theorem spec_l2Is (xs : List Dt) (t : Ty) (v : V) (w : World) (x : Value) (F : List Nat) (cs : List Value) (G : List Nat) (hx : Arr w (DtR w) xs x F) (hf : Under w.heap.size F) (hv : VR w v cs G) (hg : Under w.heap.size G) (hw : WorldOK xs) (ht : TyIn xs.length t) (hz : v.size ≤ 1048576) :
    Calls Tryd.prog 24 #[x, .agg #[.int .i64 t.d, .int .i64 t.i], .agg cs.toArray] w fun e w' => e = .returned (.bool (valueOkB xs t v)) ∧ Below w.heap.size w w' := by
  obtain ⟨kv, rfl, ha⟩ := (VR_iff _ _ _).1 hv
  obtain ⟨A, cap, rfl, hc1, hc2⟩ := hx.form
  obtain ⟨A4, cap4, rfl, hc3, hc4⟩ := ha.form
  have HV := Lib.hid hv
  have HX := Lib.hid hx
  have HF := Lib.hid hf
  have HG := Lib.hid hg
  clear hx hf hg
  clear ha hv
  go_enter Tryd.func24, Tryd.ntmps24
  go_wp2_with fail
  obtain ⟨W2, hW2⟩ : ∃ W2, W2 = ((w.alloc (.cells #[.int .i64 t.d, .int .i64 t.i] 25)).alloc (.cells #[.int .i64 v.c, .int .i64 v.n, .slice A4 v.ks.length cap4] 28)) := ⟨_, rfl⟩
  have hB0 : Below w.heap.size w W2 := by rw [hW2]; exact ((Below.refl _ _).alloc (Nat.le_refl _) _).alloc (by simp) _
  have KT : Hid (Blk W2 w.heap.size 25 #[.int .i64 t.d, .int .i64 t.i]) := by rw [hW2]; exact (Blk.new w _ _).same (Below.heap_alloc _ _ _ (by simp))
  have KV : Hid (Blk W2 (w.heap.size + 1) 28 #[.int .i64 v.c, .int .i64 v.n, .slice A4 v.ks.length cap4]) := by rw [hW2]; have h := Blk.new (w.alloc (.cells #[.int .i64 t.d, .int .i64 t.i] 25)) 28 #[.int .i64 v.c, .int .i64 v.n, .slice A4 v.ks.length cap4]; rw [World.size_alloc] at h; exact h
  rw [← hW2]
  clear hW2
  refine (spec_l2Fits v xs hw 10 (Nat.le_refl _) t ht W2 _ F _ G (ArrDt.below HX.out hB0 HF.out) (HF.out.mono hB0.size) (HV.out.below hB0 HG.out) (HG.out.mono hB0.size)).mono ?_
  rintro e w3 ⟨rfl, hb3⟩
  have hB3 := hB0.trans (hb3.mono hB0.size)
  have KV3 := Lib.hid (KV.out.same (hb3.block _ KV.out.lt))
  have KT3 := Lib.hid (KT.out.same (hb3.block _ KT.out.lt))
  have y0 : w3.cell? ⟨w.heap.size, 0, none⟩ = some (.int .i64 t.d) := (KT3.out.cell 0).trans (by simp)
  have y1 : w3.cell? ⟨w.heap.size, 1, none⟩ = some (.int .i64 t.i) := (KT3.out.cell 1).trans (by simp)
  have z0 : w3.cell? ⟨w.heap.size + 1, 0, none⟩ = some (.int .i64 v.c) := (KV3.out.cell 0).trans (by simp)
  have z1 : w3.cell? ⟨w.heap.size + 1, 1, none⟩ = some (.int .i64 v.n) := (KV3.out.cell 1).trans (by simp)
  have z2 : w3.cell? ⟨w.heap.size + 1, 2, none⟩ = some (.slice A4 v.ks.length cap4) := (KV3.out.cell 2).trans (by simp)
  have klt := KT3.out.lt
  have klt2 := KV3.out.lt
  clear hb3 KT KV
  cases e1 : fitsV xs 10 t v with
  | false =>
    have hf : Hid (valueOkB xs t v = false) := by unfold Hid valueOkB; rw [e1]; rfl
    clear e1
    go_wp2
    go_ret
    exact ⟨ret_bool hf.out.symm, hB3⟩
  | true =>
    have hf : Hid (valueOkB xs t v = decide (nodes v ≤ 60)) := by unfold Hid valueOkB; rw [e1]; rfl
    clear e1
    go_wp2_with fail
    refine (spec_l2Count v 60 (by omega) (by omega) w3 _ G (HV.out.below hB3 HG.out) (HG.out.mono hB3.size) (by unfold nodes; omega)).mono ?_
    rintro e w4 ⟨c, rfl, hu, hb4⟩
    have hB4 := hB3.trans (hb4.mono hB3.size)
    have hcd : decide (c ≤ 60) = decide (nodes v ≤ 60) := by
      have h1 := hu.yes
      have h2 := hu.no
      by_cases h : nodes v ≤ 60
      · rw [decide_eq_true h]; exact decide_eq_true (by have := h1 (by omega); omega)
      · rw [decide_eq_false h]; exact decide_eq_false (by have := h2 (by omega); omega)
    have HCD := Lib.hid hcd
    clear hu hcd hb4
    go_wp2
    go_ret
    exact ⟨ret_bool (hf.out.trans HCD.out.symm).symm, hB4⟩

set_option maxRecDepth 100000 in
set_option maxHeartbeats 1600000 in
theorem impl_valueOk (xs : List Dt) (t : Ty) (v : V) (w : World) (x : Value) (F : List Nat) (cs : List Value) (G : List Nat) (hx : Arr w (DtR w) xs x F) (hf : Under w.heap.size F) (hv : VR w v cs G) (hg : Under w.heap.size G) (hw : WorldOK xs) (ht : TyIn xs.length t) (hz : v.size ≤ 1048576) :
    Calls Tryd.prog 19 #[x, .agg #[.int .i64 t.d, .int .i64 t.i], .agg cs.toArray] w fun e w' => e = .returned (.bool (valueOkB xs t v)) ∧ Below w.heap.size w w' := by
  obtain ⟨kv, rfl, ha⟩ := (VR_iff _ _ _).1 hv
  obtain ⟨A, cap, rfl, hc1, hc2⟩ := hx.form
  obtain ⟨A4, cap4, rfl, hc3, hc4⟩ := ha.form
  have HV := Lib.hid hv
  have HX := Lib.hid hx
  have HF := Lib.hid hf
  have HG := Lib.hid hg
  clear hx hf hg
  clear ha hv
  go_enter Tryd.func19, Tryd.ntmps19
  go_wp2_with fail
  obtain ⟨W2, hW2⟩ : ∃ W2, W2 = (((w.alloc (.cells #[.int .i64 t.d, .int .i64 t.i] 25)).alloc (.cells #[.int .i64 v.c, .int .i64 v.n, .slice A4 v.ks.length cap4] 28)).alloc (.cells #[.int .i64 0] 3)) := ⟨_, rfl⟩
  have hB0 : Below w.heap.size w W2 := by rw [hW2]; exact (((Below.refl _ _).alloc (Nat.le_refl _) _).alloc (by simp) _).alloc (by simp; omega) _
  have KG : Hid (Blk W2 (w.heap.size + 2) 3 #[.int .i64 0]) := by
    rw [hW2]
    have h := Blk.new ((w.alloc (.cells #[.int .i64 t.d, .int .i64 t.i] 25)).alloc (.cells #[.int .i64 v.c, .int .i64 v.n, .slice A4 v.ks.length cap4] 28)) 3 #[.int .i64 0]
    rw [show (((w.alloc (.cells #[.int .i64 t.d, .int .i64 t.i] 25)).alloc (.cells #[.int .i64 v.c, .int .i64 v.n, .slice A4 v.ks.length cap4] 28))).heap.size = w.heap.size + 2 from by simp] at h
    exact h
  rw [← hW2]
  clear hW2
  refine (impl_valueScan v xs hw 10 1 rfl (Nat.le_refl _) t ht W2 _ F _ G (w.heap.size + 2) 0 (ArrDt.below HX.out hB0 HF.out) (HF.out.mono hB0.size) (HV.out.below hB0 HG.out) (HG.out.mono hB0.size) KG.out (fun h => by have := HF.out _ h; omega) (fun h => by have := HG.out _ h; omega) (by omega) (by omega)).mono ?_
  rintro e w3 ⟨c', rfl, hC, -, -, -⟩
  have hB3 := hB0.trans (hC.below (B := w.heap.size) (fun b hb => by rw [List.mem_singleton.1 hb]; omega) hB0.size)
  have hf : Hid (valueOkB xs t v = scanB xs 10 t v 0) := by
    unfold Hid valueOkB scanB
    congr 1
    exact decide_eq_decide.2 (by omega)
  generalize hbb : scanB xs 10 t v 0 = bb at *
  clear hbb hC
  go_wp2
  go_ret
  exact ⟨ret_bool hf.out.symm, hB3⟩

set_option maxRecDepth 100000 in
set_option maxHeartbeats 1600000 in
theorem spec_ValueValid (xs : List Dt) (t : Ty) (v : V) (w : World) (x : Value) (F : List Nat) (cs : List Value) (G : List Nat) (hx : Arr w (DtR w) xs x F) (hf : Under w.heap.size F) (hv : VR w v cs G) (hg : Under w.heap.size G) (hz : v.size ≤ 1048576) :
    Calls Tryd.prog 10 #[x, .agg #[.int .i64 t.d, .int .i64 t.i], .agg cs.toArray] w fun e w' => e = .returned (.bool (valueValidB xs t v)) ∧ Below w.heap.size w w' := by
  obtain ⟨kv, rfl, ha⟩ := (VR_iff _ _ _).1 hv
  obtain ⟨A, cap, rfl, hc1, hc2⟩ := hx.form
  obtain ⟨A4, cap4, rfl, hc3, hc4⟩ := ha.form
  have HV := Lib.hid hv
  have HX := Lib.hid hx
  have HF := Lib.hid hf
  have HG := Lib.hid hg
  clear hx hf hg
  clear ha hv
  go_enter Tryd.func10, Tryd.ntmps10
  go_wp2_with fail
  obtain ⟨W2, hW2⟩ : ∃ W2, W2 = ((w.alloc (.cells #[.int .i64 t.d, .int .i64 t.i] 25)).alloc (.cells #[.int .i64 v.c, .int .i64 v.n, .slice A4 v.ks.length cap4] 28)) := ⟨_, rfl⟩
  have hB0 : Below w.heap.size w W2 := by rw [hW2]; exact ((Below.refl _ _).alloc (Nat.le_refl _) _).alloc (by simp) _
  have KT : Hid (Blk W2 w.heap.size 25 #[.int .i64 t.d, .int .i64 t.i]) := by rw [hW2]; exact (Blk.new w _ _).same (Below.heap_alloc _ _ _ (by simp))
  have KV : Hid (Blk W2 (w.heap.size + 1) 28 #[.int .i64 v.c, .int .i64 v.n, .slice A4 v.ks.length cap4]) := by rw [hW2]; have h := Blk.new (w.alloc (.cells #[.int .i64 t.d, .int .i64 t.i] 25)) 28 #[.int .i64 v.c, .int .i64 v.n, .slice A4 v.ks.length cap4]; rw [World.size_alloc] at h; exact h
  rw [← hW2]
  clear hW2
  have y0 : W2.cell? ⟨w.heap.size, 0, none⟩ = some (.int .i64 t.d) := (KT.out.cell 0).trans (by simp)
  refine (spec_TypeValid xs t W2 _ F (ArrDt.below HX.out hB0 HF.out) (HF.out.mono hB0.size)).mono ?_
  rintro e w3 ⟨rfl, hb3⟩
  have hB3 := hB0.trans (hb3.mono hB0.size)
  have KV3 := Lib.hid (KV.out.same (hb3.block _ KV.out.lt))
  have KT3 := Lib.hid (KT.out.same (hb3.block _ KT.out.lt))
  clear y0
  have y0 : w3.cell? ⟨w.heap.size, 0, none⟩ = some (.int .i64 t.d) := (KT3.out.cell 0).trans (by simp)
  have y1 : w3.cell? ⟨w.heap.size, 1, none⟩ = some (.int .i64 t.i) := (KT3.out.cell 1).trans (by simp)
  have z0 : w3.cell? ⟨w.heap.size + 1, 0, none⟩ = some (.int .i64 v.c) := (KV3.out.cell 0).trans (by simp)
  have z1 : w3.cell? ⟨w.heap.size + 1, 1, none⟩ = some (.int .i64 v.n) := (KV3.out.cell 1).trans (by simp)
  have z2 : w3.cell? ⟨w.heap.size + 1, 2, none⟩ = some (.slice A4 v.ks.length cap4) := (KV3.out.cell 2).trans (by simp)
  have klt := KT3.out.lt
  have klt2 := KV3.out.lt
  clear hb3 KT KV
  cases e1 : typeValidB xs t with
  | false =>
    have hf : Hid (valueValidB xs t v = false) := by unfold Hid valueValidB; rw [e1]; rfl
    clear e1
    go_wp2
    go_ret
    exact ⟨ret_bool hf.out.symm, hB3⟩
  | true =>
    have hf : Hid (valueValidB xs t v = valueOkB xs t v) := by unfold Hid valueValidB; rw [e1]; rfl
    obtain ⟨hw, hto⟩ := typeValid_split e1
    have HW := Lib.hid hw
    have HT := Lib.hid (typeOkB_tyIn hto)
    clear e1 hw hto
    go_wp2_with fail
    refine (spec_l2Is xs t v w3 _ F _ G (ArrDt.below HX.out hB3 HF.out) (HF.out.mono hB3.size) (HV.out.below hB3 HG.out) (HG.out.mono hB3.size) HW.out HT.out hz).mono ?_
    rintro e w4 ⟨rfl, hb4⟩
    have hB4 := hB3.trans (hb4.mono hB3.size)
    generalize hbb : valueOkB xs t v = bb
    have HBB := Lib.hid hbb
    clear hbb
    go_wp2
    go_ret
    exact ⟨ret_bool (hf.out.trans HBB.out).symm, hB4⟩

set_option maxRecDepth 100000 in
set_option maxHeartbeats 1600000 in
theorem impl_ValueValid (xs : List Dt) (t : Ty) (v : V) (w : World) (x : Value) (F : List Nat) (cs : List Value) (G : List Nat) (hx : Arr w (DtR w) xs x F) (hf : Under w.heap.size F) (hv : VR w v cs G) (hg : Under w.heap.size G) (hz : v.size ≤ 1048576) :
    Calls Tryd.prog 8 #[x, .agg #[.int .i64 t.d, .int .i64 t.i], .agg cs.toArray] w fun e w' => e = .returned (.bool (valueValidB xs t v)) ∧ Below w.heap.size w w' := by
  obtain ⟨kv, rfl, ha⟩ := (VR_iff _ _ _).1 hv
  obtain ⟨A, cap, rfl, hc1, hc2⟩ := hx.form
  obtain ⟨A4, cap4, rfl, hc3, hc4⟩ := ha.form
  have HV := Lib.hid hv
  have HX := Lib.hid hx
  have HF := Lib.hid hf
  have HG := Lib.hid hg
  clear hx hf hg
  clear ha hv
  go_enter Tryd.func8, Tryd.ntmps8
  go_wp2_with fail
  obtain ⟨W2, hW2⟩ : ∃ W2, W2 = ((w.alloc (.cells #[.int .i64 t.d, .int .i64 t.i] 25)).alloc (.cells #[.int .i64 v.c, .int .i64 v.n, .slice A4 v.ks.length cap4] 28)) := ⟨_, rfl⟩
  have hB0 : Below w.heap.size w W2 := by rw [hW2]; exact ((Below.refl _ _).alloc (Nat.le_refl _) _).alloc (by simp) _
  have KT : Hid (Blk W2 w.heap.size 25 #[.int .i64 t.d, .int .i64 t.i]) := by rw [hW2]; exact (Blk.new w _ _).same (Below.heap_alloc _ _ _ (by simp))
  have KV : Hid (Blk W2 (w.heap.size + 1) 28 #[.int .i64 v.c, .int .i64 v.n, .slice A4 v.ks.length cap4]) := by rw [hW2]; have h := Blk.new (w.alloc (.cells #[.int .i64 t.d, .int .i64 t.i] 25)) 28 #[.int .i64 v.c, .int .i64 v.n, .slice A4 v.ks.length cap4]; rw [World.size_alloc] at h; exact h
  rw [← hW2]
  clear hW2
  have y0 : W2.cell? ⟨w.heap.size, 0, none⟩ = some (.int .i64 t.d) := (KT.out.cell 0).trans (by simp)
  refine (impl_TypeValid xs t W2 _ F (ArrDt.below HX.out hB0 HF.out) (HF.out.mono hB0.size)).mono ?_
  rintro e w3 ⟨rfl, hb3⟩
  have hB3 := hB0.trans (hb3.mono hB0.size)
  have KV3 := Lib.hid (KV.out.same (hb3.block _ KV.out.lt))
  have KT3 := Lib.hid (KT.out.same (hb3.block _ KT.out.lt))
  clear y0
  have y0 : w3.cell? ⟨w.heap.size, 0, none⟩ = some (.int .i64 t.d) := (KT3.out.cell 0).trans (by simp)
  have y1 : w3.cell? ⟨w.heap.size, 1, none⟩ = some (.int .i64 t.i) := (KT3.out.cell 1).trans (by simp)
  have z0 : w3.cell? ⟨w.heap.size + 1, 0, none⟩ = some (.int .i64 v.c) := (KV3.out.cell 0).trans (by simp)
  have z1 : w3.cell? ⟨w.heap.size + 1, 1, none⟩ = some (.int .i64 v.n) := (KV3.out.cell 1).trans (by simp)
  have z2 : w3.cell? ⟨w.heap.size + 1, 2, none⟩ = some (.slice A4 v.ks.length cap4) := (KV3.out.cell 2).trans (by simp)
  have klt := KT3.out.lt
  have klt2 := KV3.out.lt
  clear hb3 KT KV
  cases e1 : typeValidB xs t with
  | false =>
    have hf : Hid (valueValidB xs t v = false) := by unfold Hid valueValidB; rw [e1]; rfl
    clear e1
    go_wp2
    go_ret
    exact ⟨ret_bool hf.out.symm, hB3⟩
  | true =>
    have hf : Hid (valueValidB xs t v = valueOkB xs t v) := by unfold Hid valueValidB; rw [e1]; rfl
    obtain ⟨hw, hto⟩ := typeValid_split e1
    have HW := Lib.hid hw
    have HT := Lib.hid (typeOkB_tyIn hto)
    clear e1 hw hto
    go_wp2_with fail
    refine (impl_valueOk xs t v w3 _ F _ G (ArrDt.below HX.out hB3 HF.out) (HF.out.mono hB3.size) (HV.out.below hB3 HG.out) (HG.out.mono hB3.size) HW.out HT.out hz).mono ?_
    rintro e w4 ⟨rfl, hb4⟩
    have hB4 := hB3.trans (hb4.mono hB3.size)
    generalize hbb : valueOkB xs t v = bb
    have HBB := Lib.hid hbb
    clear hbb
    go_wp2
    go_ret
    exact ⟨ret_bool (hf.out.trans HBB.out).symm, hB4⟩
end Go.Proofs.YtgckkiencmickaaDoor

namespace Go.Proofs.YtgckkiencmickaaDoor
open Go.RowKit

theorem lst_step {f : Ty → V → List UInt8} {ls : List Ty} {ks : List V} {i : Nat} (b : Bool) (h1 : i < ls.length) (h2 : i < ks.length) : lst b (List.zipWith f (ls.drop i) (ks.drop i)) = (if b = true then 40 else 44) :: (f ls[i] ks[i] ++ lst false (List.zipWith f (ls.drop (i + 1)) (ks.drop (i + 1)))) := by
  rw [List.drop_eq_getElem_cons h1, List.drop_eq_getElem_cons h2, List.zipWith_cons_cons, lst]
theorem zipAll_get {f : Ty → V → Bool} : ∀ {ls : List Ty} {ks : List V}, zipAll f ls ks = true → ∀ (i : Nat) (h1 : i < ls.length) (h2 : i < ks.length), f ls[i] ks[i] = true
  | _ :: _, _ :: _, h, 0, _, _ => by rw [zipAll, Bool.and_eq_true] at h; exact h.1
  | _ :: ls, _ :: ks, h, i + 1, h1, h2 => by
    rw [zipAll, Bool.and_eq_true] at h
    exact zipAll_get h.2 i (by simpa using h1) (by simpa using h2)
theorem lst_zip_len {f : Ty → V → List UInt8} {g : Ty → V → Bool} (m : Nat) : ∀ (ls : List Ty) (ks : List V) (b : Bool), (∀ a ∈ ls, ∀ k, g a k = true → (f a k).length + 1 ≤ m * nodes k) → zipAll g ls ks = true → (lst b (List.zipWith f ls ks)).length ≤ m * V.sizes ks
  | [], ks, b, _, _ => by simp [lst]
  | _ :: _, [], b, _, _ => by simp [lst]
  | a :: ls, k :: ks, b, h, hz => by
    rw [zipAll, Bool.and_eq_true] at hz
    have h1 := h a (by simp) k hz.1
    have h2 := lst_zip_len m ls ks false (fun x hx => h x (by simp [hx])) hz.2
    have h3 : V.sizes (k :: ks) = nodes k + V.sizes ks := by simp [V.sizes, nodes]
    rw [h3, Nat.mul_add, List.zipWith_cons_cons, lst, List.length_cons, List.length_append]
    omega
/-- the text of a value -/
def vT (xs : List Dt) : Nat → Ty → V → List UInt8
  | 0, _, _ => []
  | d + 1, t, v => if t.d = -1 then digT v.n else ctorN xs t v.c ++ (lst true (List.zipWith (vT xs d) (argsOf xs t v.c) v.ks) ++ closeL (argsOf xs t v.c).length)
theorem vT_int {xs : List Dt} {d : Nat} {t : Ty} {v : V} (h : t.d = -1) : vT xs (d + 1) t v = digT v.n := by rw [vT, if_pos h]
theorem vT_data {xs : List Dt} {d : Nat} {t : Ty} {v : V} (h : ¬ t.d = -1) : vT xs (d + 1) t v = ctorN xs t v.c ++ (lst true (List.zipWith (vT xs d) (argsOf xs t v.c) v.ks) ++ closeL (argsOf xs t v.c).length) := by rw [vT, if_neg h]
/-- what stands of a value that fits a data type -/
theorem fits_parts {xs : List Dt} {d q r : Nat} {v : V} (hq : q < xs.length) (h : fitsV xs (d + 1) ⟨(q : Int), (r : Int)⟩ v = true) :
    ∃ k : Nat, v.c = (k : Int) ∧ ∃ hk : k < xs[q].ctors.length, hasB (ctorsL xs ⟨(q : Int), (r : Int)⟩) v.c = true ∧ v.ks.length = (argsL xs[q].ctors[k] (r : Int)).length ∧ zipAll (fitsV xs d) (argsL xs[q].ctors[k] (r : Int)) v.ks = true := by
  rw [fitsV_data (by show ¬ ((q : Int) = -1); omega), Bool.and_eq_true, Bool.and_eq_true, Bool.and_eq_true] at h
  obtain ⟨-, h1, h2, h3⟩ := h
  obtain ⟨q', k, e2, hvc, hq', hkl⟩ := mem_ctorsL (xs := xs) (t := ⟨(q : Int), (r : Int)⟩) (.inr ⟨q, rfl, hq⟩) ((hasB_iff _ _).1 h1)
  obtain rfl : q = q' := Int.ofNat.inj e2
  rw [hvc, argsOf_get hq hkl] at h2 h3
  exact ⟨k, hvc, hkl, h1, of_decide_eq_true h2, h3⟩
theorem vT_len {xs : List Dt} (hw : WorldOK xs) : ∀ (d : Nat) (t : Ty) (v : V), TyIn xs.length t → fitsV xs d t v = true → (vT xs d t v).length + 1 ≤ 8 * nodes v
  | 0, t, v, _, h => by rw [fitsV] at h; cases h
  | d + 1, t, v, ht, h => by
    rcases ht with ht | ⟨q, r, rfl, hql, hrl⟩
    · rw [vT_int ht, digT_len]; unfold nodes; omega
    · obtain ⟨k, hvc, hkl, h1, h2, h3⟩ := fits_parts hql h
      rw [vT_data (by show ¬ ((q : Int) = -1); omega), hvc, argsOf_get hql hkl, ctorN_get hql hkl]
      have h4 := lst_zip_len (f := vT xs d) 8 (argsL xs[q].ctors[k] (r : Int)) v.ks true (fun a ha k hk => vT_len hw d a k (argTy_in (hw.ctor hql hkl) (by omega) (by omega) ha) hk) h3
      have h5 := nameOk_len (hw.ctor hql hkl).name
      have h6 : (tl xs[q].ctors[k].name).length = xs[q].ctors[k].name.size := rfl
      have h7 := closeL_len (argsL xs[q].ctors[k] (r : Int)).length
      rw [nodes_ks, List.length_append, List.length_append]
      omega
/-- the text of a value, empty where it is none -/
def fmtV (xs : List Dt) (t : Ty) (v : V) : ByteArray := if valueValidB xs t v = true then bs (vT xs 10 t v) else ⟨#[]⟩
theorem valid_parts {xs : List Dt} {t : Ty} {v : V} (h : valueValidB xs t v = true) : WorldOK xs ∧ TyIn xs.length t ∧ fitsV xs 10 t v = true ∧ nodes v ≤ 60 := by
  unfold valueValidB valueOkB at h
  rw [Bool.and_eq_true, Bool.and_eq_true] at h
  obtain ⟨hw, hto⟩ := typeValid_split h.1
  exact ⟨hw, typeOkB_tyIn hto, h.2.1, of_decide_eq_true h.2.2⟩
end Go.Proofs.YtgckkiencmickaaDoor

namespace Go.Proofs.YtgckkiencmickaaDoor
open Go.RowKit

def Wd (u t : Ty) : Prop := u.d = t.d ∧ (u.i = 0 ∨ u.i = t.i)
theorem Wd.arg {r s : Int} (h : r = 0 ∨ r = s) (a : Ty) : Wd (argTy r a) (argTy s a) := by
  cases hi : (a.i == -1) with
  | true => rw [argTy_yes hi, argTy_yes hi]; exact ⟨rfl, h⟩
  | false => rw [argTy_no hi, argTy_no hi]; exact ⟨rfl, .inr rfl⟩
theorem Wd.res (c : Kt) {i j : Int} (h : i = 0 ∨ i = j) : (resIdx c i = 0 ∨ resIdx c i = resIdx c j) := by
  unfold resIdx
  split
  · exact h
  · exact .inr rfl
theorem ctorAt_wide (xs : List Dt) {u t : Ty} (h : Wd u t) (k : Int) : ctorAt xs u k = ctorAt xs t k := by
  unfold ctorAt
  rw [h.1]
theorem args_wide (xs : List Dt) {u t : Ty} (h : Wd u t) (k : Int) : ∃ (l : List Ty) (f g : Ty → Ty), argsOf xs u k = l.map f ∧ argsOf xs t k = l.map g ∧ ∀ a, Wd (f a) (g a) := by
  unfold argsOf
  rw [ctorAt_wide xs h k]
  cases ctorAt xs t k with
  | none => exact ⟨[], id, id, rfl, rfl, fun a => ⟨rfl, .inr rfl⟩⟩
  | some c => exact ⟨c.args, argTy (resIdx c u.i), argTy (resIdx c t.i), rfl, rfl, fun a => Wd.arg (Wd.res c h.2) a⟩
theorem fitsB_wide {c : Kt} {i j : Int} (h : i = 0 ∨ i = j) (hf : fitsB c j = true) : fitsB c i = true := by
  unfold fitsB at hf ⊢
  simp only [Bool.or_eq_true, beq_iff_eq] at hf ⊢
  rcases h with h | h
  · exact .inr (.inl h)
  · rw [h]; exact hf
theorem ctors_wide (xs : List Dt) {u t : Ty} (h : Wd u t) {k : Int} (hk : hasB (ctorsL xs t) k = true) : hasB (ctorsL xs u) k = true := by
  rw [hasB_iff] at hk ⊢
  unfold ctorsL at hk ⊢
  rw [h.1]
  split at hk
  · cases hk
  · rename_i hd
    rw [if_neg hd]
    unfold fitTo at hk ⊢
    obtain ⟨m, hm, rfl⟩ := List.mem_map.1 hk
    rw [List.mem_filter] at hm
    refine List.mem_map.2 ⟨m, List.mem_filter.2 ⟨hm.1, ?_⟩, rfl⟩
    have h2 := hm.2
    unfold fitAt at h2 ⊢
    split at h2
    · exact fitsB_wide h.2 h2
    · cases h2
theorem zip_wide {xs : List Dt} {d : Nat} (ih : ∀ (t u : Ty) (v : V), Wd u t → fitsV xs d t v = true → fitsV xs d u v = true ∧ vT xs d u v = vT xs d t v) {f g : Ty → Ty} (hW : ∀ a, Wd (f a) (g a)) :
    ∀ (l : List Ty) (ks : List V), zipAll (fitsV xs d) (l.map g) ks = true → zipAll (fitsV xs d) (l.map f) ks = true ∧ List.zipWith (vT xs d) (l.map f) ks = List.zipWith (vT xs d) (l.map g) ks
  | [], ks, _ => ⟨by simp [zipAll], rfl⟩
  | _ :: _, [], _ => ⟨by simp [zipAll], by simp⟩
  | a :: l, k :: ks, h => by
    rw [List.map_cons, zipAll, Bool.and_eq_true] at h
    have h1 := ih (g a) (f a) k (hW a) h.1
    have h2 := zip_wide ih hW l ks h.2
    rw [List.map_cons, List.map_cons, zipAll, h1.1, h2.1, List.zipWith_cons_cons, List.zipWith_cons_cons, h1.2, h2.2]
    exact ⟨rfl, rfl⟩
theorem fits_wide (xs : List Dt) : ∀ (d : Nat) (t u : Ty) (v : V), Wd u t → fitsV xs d t v = true → fitsV xs d u v = true ∧ vT xs d u v = vT xs d t v
  | 0, _, _, _, _, h => by cases h
  | d + 1, t, u, v, hw, h => by
    by_cases ht : t.d = -1
    · have hu : u.d = -1 := hw.1.trans ht
      rw [fitsV_int ht] at h
      rw [fitsV_int hu, vT_int ht, vT_int hu]
      exact ⟨h, rfl⟩
    · have hu : ¬ u.d = -1 := by rw [hw.1]; exact ht
      rw [fitsV_data ht] at h
      rw [fitsV_data hu, vT_data ht, vT_data hu]
      simp only [Bool.and_eq_true, decide_eq_true_iff] at h ⊢
      obtain ⟨h1, h2, h3, h4⟩ := h
      obtain ⟨l, f, g, e1, e2, hW⟩ := args_wide xs hw v.c
      rw [e2] at h3 h4
      have hz := zip_wide (fits_wide xs d) hW l v.ks h4
      have hc : ctorN xs u v.c = ctorN xs t v.c := by unfold ctorN; rw [ctorAt_wide xs hw]
      rw [e1, e2, hz.1, hz.2, hc, List.length_map, List.length_map]
      rw [List.length_map] at h3
      exact ⟨⟨h1, ctors_wide xs hw h2, h3, rfl⟩, rfl⟩
theorem typeOkB_wide2 {n : Int} {t : Ty} (h : typeOkB n t = true) : typeOkB n ⟨t.d, 0⟩ = true := by
  unfold typeOkB at h ⊢
  simp only
  split
  · rfl
  · rename_i hd
    rw [if_neg hd, Bool.and_eq_true] at h
    rw [h.1]; rfl
theorem fmtV_wide {xs : List Dt} {t : Ty} {v : V} (h : valueValidB xs t v = true) : fmtV xs ⟨t.d, 0⟩ v = fmtV xs t v := by
  have h0 := h
  unfold valueValidB valueOkB at h
  simp only [Bool.and_eq_true, decide_eq_true_iff] at h
  obtain ⟨h1, h2, h3⟩ := h
  have h4 := fits_wide xs 10 t ⟨t.d, 0⟩ v ⟨rfl, .inl rfl⟩ h2
  have h5 : typeValidB xs ⟨t.d, 0⟩ = true := by
    unfold typeValidB at h1 ⊢
    rw [Bool.and_eq_true] at h1 ⊢
    exact ⟨h1.1, typeOkB_wide2 h1.2⟩
  have h6 : valueValidB xs ⟨t.d, 0⟩ v = true := by
    unfold valueValidB valueOkB
    simp only [Bool.and_eq_true, decide_eq_true_iff]
    exact ⟨h5, h4.1, h3⟩
  unfold fmtV
  rw [if_pos h0, if_pos h6, h4.2]
theorem fmtV_no {xs : List Dt} {t : Ty} {v : V} (h : valueValidB xs t v = false) : fmtV xs t v = ⟨#[]⟩ := if_neg (by simp [h])
end Go.Proofs.YtgckkiencmickaaDoor

namespace Go.Proofs.YtgckkiencmickaaDoor
open Go.RowKit

/-- contract of l2Text at one value -/
def TxtS (v : V) : Prop := ∀ (xs : List Dt) (_ : WorldOK xs) (d : Nat) (_ : d ≤ 10) (t : Ty) (_ : TyIn xs.length t) (_ : fitsV xs d t v = true) (_ : nodes v ≤ 60) (w : World) (x : Value) (F : List Nat) (cs : List Value) (G : List Nat), Arr w (DtR w) xs x F → Under w.heap.size F → VR w v cs G → Under w.heap.size G →
  Calls Tryd.prog 11 #[x, .agg #[.int .i64 t.d, .int .i64 t.i], .agg cs.toArray] w fun e w' => e = .returned (.string (bs (vT xs d t v))) ∧ Below w.heap.size w w'
theorem nodes_kid {v : V} {k : V} (h : k ∈ v.ks) : nodes k ≤ nodes v := by
  obtain ⟨i, hi, rfl⟩ := List.getElem_of_mem h
  have h1 := sizes_step hi
  have h2 := sizes_take_le v.ks (i + 1)
  rw [nodes_ks v]
  omega
set_option maxRecDepth 100000 in
set_option maxHeartbeats 8000000 in
theorem l2Text_of (v : V) (ih : ∀ k ∈ v.ks, TxtS k) : TxtS v := by
  intro xs hw d hd t ht hfit hn60 w x F cs G hx hf hv hg
  obtain ⟨kv, rfl, ha⟩ := (VR_iff _ _ _).1 hv
  obtain ⟨A, cap, rfl, hc1, hc2⟩ := hx.form
  obtain ⟨A4, cap4, rfl, hc3, hc4⟩ := ha.form
  have hlen := vT_len hw d t v ht hfit
  have HKN : Hid (∀ k ∈ v.ks, nodes k ≤ 60) := fun k hk => Nat.le_trans (nodes_kid hk) hn60
  have HW := Lib.hid hw
  have IH := Lib.hid ih
  have HX := Lib.hid hx
  have HF := Lib.hid hf
  have HA := Lib.hid ha
  have HG := Lib.hid hg
  clear hx hf ha hg
  clear hw ih hv
  cases d with
  | zero => rw [fitsV] at hfit; cases hfit
  | succ d =>
  rcases ht with ht | ⟨q, r, rfl, hql, hrl⟩
  · have t0 : (t.d == -1) = true := by simp [ht]
    have hB0 : Below w.heap.size w ((w.alloc (.cells #[.int .i64 t.d, .int .i64 t.i] 25)).alloc (.cells #[.int .i64 v.c, .int .i64 v.n, .slice A4 v.ks.length cap4] 28)) := ((Below.refl _ _).alloc (Nat.le_refl _) _).alloc (by simp) _
    rw [fitsV_int ht] at hfit
    unfold isNum at hfit
    rw [Bool.and_eq_true, Bool.and_eq_true] at hfit
    have hq := (withinB_iff _ _ _).1 hfit.2.1
    have hf : Hid (bs (vT xs (d + 1) t v) = bs (digT v.n)) := by unfold Hid; rw [vT_int ht]
    clear hfit hlen hn60 ht
    go_enter Tryd.func11, Tryd.ntmps11
    go_wp2_with fail
    refine (spec_l17Dec v.n hq.1 hq.2 _).mono ?_
    rintro e w' ⟨rfl, hB'⟩
    have hB1 := hB0.trans (hB'.mono hB0.size)
    go_wp2
    go_ret
    exact ⟨ret_str hf.out.symm, hB1⟩
  · have t0 : ((q : Int) == -1) = false := by rw [beq_eq_false_iff_ne]; omega
    obtain ⟨k, hvc, hkl, h1, h2, h3⟩ := fits_parts hql hfit
    have hvt := vT_data (xs := xs) (d := d) (v := v) (t := ⟨(q : Int), (r : Int)⟩) (by show ¬ ((q : Int) = -1); omega)
    rw [hvc, argsOf_get hql hkl, ctorN_get hql hkl] at hvt
    have HVT := Lib.hid hvt
    have HAI := Lib.hid (fun a ha => argTy_in (HW.out.ctor hql hkl) (i := (r : Int)) (by omega) (by omega) (a := a) ha)
    have HLA := Lib.hid (HW.out.ctor hql hkl).args
    have HZA := Lib.hid (fun i h1 h2 => zipAll_get h3 i h1 h2)
    have HLN := Lib.hid h2
    have HVC := Lib.hid hvc
    have hn5 := nameOk_len (HW.out.ctor hql hkl).name
    have HL5 := Lib.hid hlen
    have HN60 := Lib.hid hn60
    clear hfit h1 h2 h3 hvt hvc hlen hn60
    obtain ⟨b, off, rfl⟩ := HX.out.ptr (by omega)
    have hB0 : Below w.heap.size w ((w.alloc (.cells #[.int .i64 (q : Int), .int .i64 (r : Int)] 25)).alloc (.cells #[.int .i64 v.c, .int .i64 v.n, .slice A4 v.ks.length cap4] 28)) := ((Below.refl _ _).alloc (Nat.le_refl _) _).alloc (by simp) _
    obtain ⟨A1, cap1, G1, hb, c0, c1, HK, HG1, hs, hn1, hn2⟩ := ArrDt.at HX.out HF.out hB0 q hql
    obtain ⟨b3, off3, rfl⟩ := HK.out.ptr (by omega)
    obtain ⟨A9, cap9, G9, hb9, p0, p1, p2, HT9, HTG9, hnm9, hc93, hc94⟩ := ArrKt.at HK.out HG1.out hB0 k hkl
    have g1 : (0 : Int) ≤ (q : Int) := by omega
    have g2 : (q : Int) < (xs.length : Int) := by omega
    have g3 : (0 : Int) ≤ (k : Int) := by omega
    have g4 : (k : Int) < (xs[q].ctors.length : Int) := by omega
    have KT : Hid (Blk ((w.alloc (.cells #[.int .i64 (q : Int), .int .i64 (r : Int)] 25)).alloc (.cells #[.int .i64 v.c, .int .i64 v.n, .slice A4 v.ks.length cap4] 28)) w.heap.size 25 #[.int .i64 (q : Int), .int .i64 (r : Int)]) := (Blk.new w _ _).same (Below.heap_alloc _ _ _ (by simp))
    have KV : Hid (Blk ((w.alloc (.cells #[.int .i64 (q : Int), .int .i64 (r : Int)] 25)).alloc (.cells #[.int .i64 v.c, .int .i64 v.n, .slice A4 v.ks.length cap4] 28)) (w.heap.size + 1) 28 #[.int .i64 v.c, .int .i64 v.n, .slice A4 v.ks.length cap4]) := by have h := Blk.new (w.alloc (.cells #[.int .i64 (q : Int), .int .i64 (r : Int)] 25)) 28 #[.int .i64 v.c, .int .i64 v.n, .slice A4 v.ks.length cap4]; rw [World.size_alloc] at h; exact h
    go_enter Tryd.func11, Tryd.ntmps11
    go_wp2_with fail
    obtain ⟨W2, hW2⟩ : ∃ W2, W2 = ((w.alloc (.cells #[.int .i64 (q : Int), .int .i64 (r : Int)] 25)).alloc (.cells #[.int .i64 v.c, .int .i64 v.n, .slice A4 v.ks.length cap4] 28)) := ⟨_, rfl⟩
    rw [← hW2] at hB0 c0 c1 hb hb9 p0 p1 p2 KV KT ⊢
    clear hW2
    have y0 : W2.cell? ⟨w.heap.size, 0, none⟩ = some (.int .i64 (q : Int)) := (KT.out.cell 0).trans (by simp)
    have y1 : W2.cell? ⟨w.heap.size, 1, none⟩ = some (.int .i64 (r : Int)) := (KT.out.cell 1).trans (by simp)
    have x0 : W2.cell? ⟨w.heap.size + 1, 0, none⟩ = some (.int .i64 (k : Int)) := (KV.out.cell 0).trans (by simp [HVC.out])
    have klt := KT.out.lt
    have klt2 := KV.out.lt
    have HBQ := Lib.hid (fun n => below_drewN hB0 n)
    go_quiet (fail)
    obtain ⟨w5, hw5⟩ : ∃ X, X = W2.drewN nq := ⟨_, rfl⟩
    have hB5 : Below w.heap.size w w5 := by rw [hw5]; exact HBQ.out nq
    have KT5 : Hid (Blk w5 w.heap.size 25 #[.int .i64 (q : Int), .int .i64 (r : Int)]) := by rw [hw5]; exact KT.out
    have KV5 : Hid (Blk w5 (w.heap.size + 1) 28 #[.int .i64 v.c, .int .i64 v.n, .slice A4 v.ks.length cap4]) := by rw [hw5]; exact KV.out
    rw [← hw5]
    clear hw5 KT KV y0 y1 x0 klt klt2 hb9 p0 p1 p2 hb c0 c1 HBQ
    have y0 : w5.cell? ⟨w.heap.size, 0, none⟩ = some (.int .i64 (q : Int)) := (KT5.out.cell 0).trans (by simp)
    have y1 : w5.cell? ⟨w.heap.size, 1, none⟩ = some (.int .i64 (r : Int)) := (KT5.out.cell 1).trans (by simp)
    have x0 : w5.cell? ⟨w.heap.size + 1, 0, none⟩ = some (.int .i64 (k : Int)) := (KV5.out.cell 0).trans (by simp [HVC.out])
    have klt := KT5.out.lt
    have klt2 := KV5.out.lt
    go_wp2_with fail
    refine (spec_l1Args xs q k (r : Int) hql hkl _ _ F (ArrDt.below HX.out hB5 HF.out) (HF.out.mono hB5.size) HLA.out).mono ?_
    rintro e w6 ⟨v6, F6, rfl, hb6, ha6, -, hfs6⟩
    have hB6 := hB5.trans (hb6.mono hB5.size)
    have KV6 := Lib.hid (KV5.out.same (hb6.block _ KV5.out.lt))
    generalize hass : argsL xs[q].ctors[k] (r : Int) = ls at *
    clear hass
    obtain ⟨A6, cap6, rfl, hd3, hd4⟩ := ha6.form
    have HA6 := Lib.hid ha6
    have HU6 := Lib.hid hfs6.under
    clear ha6 hfs6 hb6 KT5 KV5 y0 y1 x0 klt klt2 hB0 hB5 g1 g2 g3 g4 hs hn1 hn2 hnm9 hc93 hc94
    obtain ⟨nm, hnm⟩ : ∃ nm, nm = xs[q].ctors[k].name := ⟨_, rfl⟩
    rw [← hnm] at HVT hn5 ⊢
    clear hnm
    have HR0 : Hid (vT xs (d + 1) ⟨(q : Int), (r : Int)⟩ v = tl nm ++ (lst (decide (0 = 0)) (List.zipWith (vT xs d) (ls.drop 0) (v.ks.drop 0)) ++ closeL ls.length)) := HVT.out
    go_wp2
    go_loopw [7, 9] (fun ov iv wr => ∃ i : Nat, ∃ out : ByteArray, i ≤ ls.length ∧ iv = .int .i64 i ∧ ov = .string out ∧ Hid (vT xs (d + 1) ⟨(q : Int), (r : Int)⟩ v = tl out ++ (lst (decide (i = 0)) (List.zipWith (vT xs d) (ls.drop i) (v.ks.drop i)) ++ closeL ls.length)) ∧ Hid (Blk wr (w.heap.size + 1) 28 #[.int .i64 v.c, .int .i64 v.n, .slice A4 v.ks.length cap4]) ∧ Below w.heap.size w wr ∧ Hid (Below w6.heap.size w6 wr)) (fun _ iv _ => ls.length - (intOf iv).toNat)
    case atStart => exact ⟨0, nm, Nat.zero_le _, rfl, rfl, HR0, KV6, hB6, Below.refl _ _⟩
    case round =>
      clear hB6
      obtain ⟨i, out, hi, rfl, rfl, HR, KV, hB, HB6⟩ := hrel
      have hos : out.size ≤ 480 := by
        have h1 := congrArg List.length HR.out
        have h2 := HL5.out
        have h3 := HN60.out
        rw [List.length_append] at h1
        have h4 : (tl out).length = out.size := rfl
        omega
      by_cases hil : i < ls.length
      · have hik : i < v.ks.length := by rw [HLN.out]; exact hil
        obtain ⟨b6, off6, rfl⟩ := HA6.out.ptr (by omega)
        obtain ⟨hb6, a0, a1⟩ := ArrTy.at HA6.out HU6.out HB6.out i hil
        obtain ⟨b4, off4, rfl⟩ := HA.out.ptr (by omega)
        obtain ⟨A7, cap7, G7, hb7, k0, k1, k2, HV7, HG7, -, -, -⟩ := ArrV.at HA.out HG.out hB i hik
        have z2 : wr.cell? ⟨w.heap.size + 1, 2, none⟩ = some (.slice (some ⟨b4, off4, none⟩) v.ks.length cap4) := (KV.out.cell 2).trans (by simp)
        have klt2 := KV.out.lt
        have g1 : (0 : Int) ≤ (i : Int) := by omega
        have g2 : (i : Int) < (ls.length : Int) := by omega
        have g3 : (i : Int) < (v.ks.length : Int) := by omega
        have hst := HR.out
        rw [lst_step _ hil hik] at hst
        have HFI : Hid (fitsV xs d ls[i] v.ks[i] = true) := HZA.out i hil hik
        have HNI : Hid (nodes v.ks[i] ≤ 60) := HKN.out _ (List.getElem_mem hik)
        have HTI := Lib.hid (HAI.out _ (List.getElem_mem hil))
        have HCALL := Lib.hid (IH.out v.ks[i] (List.getElem_mem hik) xs HW.out d (by omega) ls[i] HTI.out HFI.out HNI.out wr.drew _ F _ G7 (ArrDt.below HX.out hB.drew HF.out) (HF.out.mono hB.drew.size) (HV7.out.below hB.drew HG7.out) (HG7.out.mono hB.drew.size))
        have hzs : (bs (vT xs d ls[i] v.ks[i])).size ≤ 480 := by
          have h1 := vT_len HW.out d ls[i] v.ks[i] HTI.out HFI.out
          have h2 := HNI.out
          rw [bs_size]; omega
        obtain ⟨Z, hZ⟩ : ∃ z, bs (vT xs d ls[i] v.ks[i]) = z := ⟨_, rfl⟩
        rw [hZ] at hzs
        have HZ := Lib.hid hZ
        have HZV : Hid (vT xs d ls[i] v.ks[i] = tl Z) := by rw [← HZ.out]; rfl
        rw [HZV.out] at hst
        clear hZ
        have hcat0 : out.size + 1 ≤ 9223372036854775807 := by omega
        have hcat1 : out.size + 1 + Z.size ≤ 9223372036854775807 := by omega
        have hcat2 : ¬ 9223372036854775807 < out.size + 1 := by omega
        have hcat3 : ¬ 9223372036854775807 < out.size + 1 + Z.size := by omega
        clear hzs hos
        cases q3 : ((i : Int) == 0) with
        | true =>
          have hi0 : decide (i = 0) = true := by
            rw [beq_iff_eq] at q3; exact decide_eq_true (by omega)
          rw [hi0] at hst
          have hst2 : vT xs (d + 1) ⟨(q : Int), (r : Int)⟩ v = tl ((out ++ ⟨#[40]⟩) ++ Z) ++ (lst (decide (i + 1 = 0)) (List.zipWith (vT xs d) (ls.drop (i + 1)) (v.ks.drop (i + 1))) ++ closeL ls.length) := by
            rw [hst, tl_append, tl_append, ← HZ.out, tl_bs, decide_eq_false (show ¬ (i + 1 = 0) by omega)]
            show tl out ++ ((40 :: _) ++ _) = _
            simp [tl]
          have HST := Lib.hid hst2
          clear hst hst2 hi0
          go_wp2_with fail
          have hkeep : ∀ U U' : World, (U.cell? ⟨b6, off6 + i * 2, none⟩ = some (.int .i64 ls[i].d) ∧ U.cell? ⟨b6, off6 + i * 2 + 1, none⟩ = some (.int .i64 ls[i].i) ∧ U.cell? ⟨w.heap.size + 1, 2, none⟩ = some (.slice (some ⟨b4, off4, none⟩) v.ks.length cap4) ∧ U.cell? ⟨b4, off4 + i * 3, none⟩ = some (.int .i64 v.ks[i].c) ∧ U.cell? ⟨b4, off4 + i * 3 + 1, none⟩ = some (.int .i64 v.ks[i].n) ∧ U.cell? ⟨b4, off4 + i * 3 + 2, none⟩ = some (.slice A7 v.ks[i].ks.length cap7)) → Below U.heap.size U U' → wr.heap.size ≤ U.heap.size → (U'.cell? ⟨b6, off6 + i * 2, none⟩ = some (.int .i64 ls[i].d) ∧ U'.cell? ⟨b6, off6 + i * 2 + 1, none⟩ = some (.int .i64 ls[i].i) ∧ U'.cell? ⟨w.heap.size + 1, 2, none⟩ = some (.slice (some ⟨b4, off4, none⟩) v.ks.length cap4) ∧ U'.cell? ⟨b4, off4 + i * 3, none⟩ = some (.int .i64 v.ks[i].c) ∧ U'.cell? ⟨b4, off4 + i * 3 + 1, none⟩ = some (.int .i64 v.ks[i].n) ∧ U'.cell? ⟨b4, off4 + i * 3 + 2, none⟩ = some (.slice A7 v.ks[i].ks.length cap7)) := fun U U' h hUU hU => ⟨(hUU.cell (Nat.lt_of_lt_of_le (hb6) hU)).trans h.1, (hUU.cell (Nat.lt_of_lt_of_le (hb6) hU)).trans h.2.1, (hUU.cell (Nat.lt_of_lt_of_le (klt2) hU)).trans h.2.2.1, (hUU.cell (Nat.lt_of_lt_of_le (hb7) hU)).trans h.2.2.2.1, (hUU.cell (Nat.lt_of_lt_of_le (hb7) hU)).trans h.2.2.2.2.1, (hUU.cell (Nat.lt_of_lt_of_le (hb7) hU)).trans h.2.2.2.2.2⟩
          have HKeep := Lib.hid hkeep
          clear hkeep
          go_region_held3 (fun w' => w'.cell? ⟨b6, off6 + i * 2, none⟩ = some (.int .i64 ls[i].d) ∧ w'.cell? ⟨b6, off6 + i * 2 + 1, none⟩ = some (.int .i64 ls[i].i) ∧ w'.cell? ⟨w.heap.size + 1, 2, none⟩ = some (.slice (some ⟨b4, off4, none⟩) v.ks.length cap4) ∧ w'.cell? ⟨b4, off4 + i * 3, none⟩ = some (.int .i64 v.ks[i].c) ∧ w'.cell? ⟨b4, off4 + i * 3 + 1, none⟩ = some (.int .i64 v.ks[i].n) ∧ w'.cell? ⟨b4, off4 + i * 3 + 2, none⟩ = some (.slice A7 v.ks[i].ks.length cap7)) (first | assumption | (exact ⟨a0, a1, z2, k0, k1, k2⟩) | (exact HKeep.out wr.drew w' ⟨a0, a1, z2, k0, k1, k2⟩ hB' (Nat.le_refl _))) (first | (go_at_call 11; ((with_reducible refine HCALL.out.mono ?_); rintro e w' ⟨rfl, hB'⟩; rw [HZ.out])))
          have hB3 := hB.drew.trans (hB'.mono hB.size)
          have HB3 := Lib.hid (HB6.out.drew.trans (hB'.mono HB6.out.size))
          have KV3 := Lib.hid (KV.out.same (hB'.block _ KV.out.lt))
          clear HKeep
          go_wp2
          go_roundw
          case rel => exact ⟨i + 1, _, by omega, by go_num, rfl, HST, KV3, hB3, HB3⟩
          case measure => (simp [intOf] <;> omega)
        | false =>
          have hi0 : decide (i = 0) = false := by
            rw [beq_eq_false_iff_ne] at q3; exact decide_eq_false (by omega)
          rw [hi0] at hst
          have hst2 : vT xs (d + 1) ⟨(q : Int), (r : Int)⟩ v = tl ((out ++ ⟨#[44]⟩) ++ Z) ++ (lst (decide (i + 1 = 0)) (List.zipWith (vT xs d) (ls.drop (i + 1)) (v.ks.drop (i + 1))) ++ closeL ls.length) := by
            rw [hst, tl_append, tl_append, ← HZ.out, tl_bs, decide_eq_false (show ¬ (i + 1 = 0) by omega)]
            show tl out ++ ((44 :: _) ++ _) = _
            simp [tl]
          have HST := Lib.hid hst2
          clear hst hst2 hi0
          go_wp2_with fail
          have hkeep : ∀ U U' : World, (U.cell? ⟨b6, off6 + i * 2, none⟩ = some (.int .i64 ls[i].d) ∧ U.cell? ⟨b6, off6 + i * 2 + 1, none⟩ = some (.int .i64 ls[i].i) ∧ U.cell? ⟨w.heap.size + 1, 2, none⟩ = some (.slice (some ⟨b4, off4, none⟩) v.ks.length cap4) ∧ U.cell? ⟨b4, off4 + i * 3, none⟩ = some (.int .i64 v.ks[i].c) ∧ U.cell? ⟨b4, off4 + i * 3 + 1, none⟩ = some (.int .i64 v.ks[i].n) ∧ U.cell? ⟨b4, off4 + i * 3 + 2, none⟩ = some (.slice A7 v.ks[i].ks.length cap7)) → Below U.heap.size U U' → wr.heap.size ≤ U.heap.size → (U'.cell? ⟨b6, off6 + i * 2, none⟩ = some (.int .i64 ls[i].d) ∧ U'.cell? ⟨b6, off6 + i * 2 + 1, none⟩ = some (.int .i64 ls[i].i) ∧ U'.cell? ⟨w.heap.size + 1, 2, none⟩ = some (.slice (some ⟨b4, off4, none⟩) v.ks.length cap4) ∧ U'.cell? ⟨b4, off4 + i * 3, none⟩ = some (.int .i64 v.ks[i].c) ∧ U'.cell? ⟨b4, off4 + i * 3 + 1, none⟩ = some (.int .i64 v.ks[i].n) ∧ U'.cell? ⟨b4, off4 + i * 3 + 2, none⟩ = some (.slice A7 v.ks[i].ks.length cap7)) := fun U U' h hUU hU => ⟨(hUU.cell (Nat.lt_of_lt_of_le (hb6) hU)).trans h.1, (hUU.cell (Nat.lt_of_lt_of_le (hb6) hU)).trans h.2.1, (hUU.cell (Nat.lt_of_lt_of_le (klt2) hU)).trans h.2.2.1, (hUU.cell (Nat.lt_of_lt_of_le (hb7) hU)).trans h.2.2.2.1, (hUU.cell (Nat.lt_of_lt_of_le (hb7) hU)).trans h.2.2.2.2.1, (hUU.cell (Nat.lt_of_lt_of_le (hb7) hU)).trans h.2.2.2.2.2⟩
          have HKeep := Lib.hid hkeep
          clear hkeep
          go_region_held3 (fun w' => w'.cell? ⟨b6, off6 + i * 2, none⟩ = some (.int .i64 ls[i].d) ∧ w'.cell? ⟨b6, off6 + i * 2 + 1, none⟩ = some (.int .i64 ls[i].i) ∧ w'.cell? ⟨w.heap.size + 1, 2, none⟩ = some (.slice (some ⟨b4, off4, none⟩) v.ks.length cap4) ∧ w'.cell? ⟨b4, off4 + i * 3, none⟩ = some (.int .i64 v.ks[i].c) ∧ w'.cell? ⟨b4, off4 + i * 3 + 1, none⟩ = some (.int .i64 v.ks[i].n) ∧ w'.cell? ⟨b4, off4 + i * 3 + 2, none⟩ = some (.slice A7 v.ks[i].ks.length cap7)) (first | assumption | (exact ⟨a0, a1, z2, k0, k1, k2⟩) | (exact HKeep.out wr.drew w' ⟨a0, a1, z2, k0, k1, k2⟩ hB' (Nat.le_refl _))) (first | (go_at_call 11; ((with_reducible refine HCALL.out.mono ?_); rintro e w' ⟨rfl, hB'⟩; rw [HZ.out])))
          have hB3 := hB.drew.trans (hB'.mono hB.size)
          have HB3 := Lib.hid (HB6.out.drew.trans (hB'.mono HB6.out.size))
          have KV3 := Lib.hid (KV.out.same (hB'.block _ KV.out.lt))
          clear HKeep
          go_wp2
          go_roundw
          case rel => exact ⟨i + 1, _, by omega, by go_num, rfl, HST, KV3, hB3, HB3⟩
          case measure => (simp [intOf] <;> omega)
      · have hte := HR.out
        rw [List.drop_of_length_le (by omega), show ∀ l, List.zipWith (vT xs d) [] l = [] from fun l => by cases l <;> rfl, lst, List.nil_append] at hte
        have HTE := Lib.hid hte
        clear hte
        have c1 : out.size + 1 ≤ 9223372036854775807 := by omega
        have c2 : ¬ 9223372036854775807 < out.size + 1 := by omega
        by_cases hp : 0 < ls.length
        · have t5 : decide ((ls.length : Int) > 0) = true := decide_eq_true (by omega)
          have t6 : decide (0 < ls.length) = true := decide_eq_true hp
          have hf : Hid (bs (vT xs (d + 1) ⟨(q : Int), (r : Int)⟩ v) = out ++ ⟨#[41]⟩) := by
            unfold Hid; rw [HTE.out, closeL, if_pos hp, ← bs_append, bs_tl]; rfl
          go_wp2
          go_ret
          exact ⟨ret_str hf.out.symm, hB⟩
        · have t5 : decide ((ls.length : Int) > 0) = false := decide_eq_false (by omega)
          have t6 : decide (0 < ls.length) = false := decide_eq_false hp
          have hf : Hid (bs (vT xs (d + 1) ⟨(q : Int), (r : Int)⟩ v) = out) := by
            unfold Hid; rw [HTE.out, closeL, if_neg hp, List.append_nil, bs_tl]
          go_wp2
          go_ret
          exact ⟨ret_str hf.out.symm, hB⟩
theorem spec_l2Text : ∀ v, TxtS v := V.indv l2Text_of
set_option maxRecDepth 100000 in
set_option maxHeartbeats 1600000 in
theorem spec_FormatValue (xs : List Dt) (t : Ty) (v : V) (w : World) (x : Value) (F : List Nat) (cs : List Value) (G : List Nat) (hx : Arr w (DtR w) xs x F) (hf : Under w.heap.size F) (hv : VR w v cs G) (hg : Under w.heap.size G) (hz : v.size ≤ 1048576) :
    Calls Tryd.prog 6 #[x, .agg #[.int .i64 t.d, .int .i64 t.i], .agg cs.toArray] w fun e w' => e = .returned (.string (fmtV xs t v)) ∧ Below w.heap.size w w' := by
  obtain ⟨kv, rfl, ha⟩ := (VR_iff _ _ _).1 hv
  obtain ⟨A, cap, rfl, hc1, hc2⟩ := hx.form
  obtain ⟨A4, cap4, rfl, hc3, hc4⟩ := ha.form
  have HX := Lib.hid hx
  have HF := Lib.hid hf
  have HV := Lib.hid hv
  have HG := Lib.hid hg
  clear hx hf hv hg
  clear ha
  go_enter Tryd.func6, Tryd.ntmps6
  go_wp2_with fail
  obtain ⟨W2, hW2⟩ : ∃ W2, W2 = ((w.alloc (.cells #[.int .i64 t.d, .int .i64 t.i] 25)).alloc (.cells #[.int .i64 v.c, .int .i64 v.n, .slice A4 v.ks.length cap4] 28)) := ⟨_, rfl⟩
  have hB0 : Below w.heap.size w W2 := by rw [hW2]; exact ((Below.refl _ _).alloc (Nat.le_refl _) _).alloc (by simp) _
  have KT : Hid (Blk W2 w.heap.size 25 #[.int .i64 t.d, .int .i64 t.i]) := by rw [hW2]; exact (Blk.new w _ _).same (Below.heap_alloc _ _ _ (by simp))
  have KV : Hid (Blk W2 (w.heap.size + 1) 28 #[.int .i64 v.c, .int .i64 v.n, .slice A4 v.ks.length cap4]) := by rw [hW2]; have h := Blk.new (w.alloc (.cells #[.int .i64 t.d, .int .i64 t.i] 25)) 28 #[.int .i64 v.c, .int .i64 v.n, .slice A4 v.ks.length cap4]; rw [World.size_alloc] at h; exact h
  rw [← hW2]
  clear hW2
  refine (spec_ValueValid xs t v W2 _ F _ G (ArrDt.below HX.out hB0 HF.out) (HF.out.mono hB0.size) (HV.out.below hB0 HG.out) (HG.out.mono hB0.size) hz).mono ?_
  rintro e w1 ⟨rfl, hb1⟩
  have hB1 := hB0.trans (hb1.mono hB0.size)
  have KT1 := Lib.hid (KT.out.same (hb1.block _ KT.out.lt))
  have KV1 := Lib.hid (KV.out.same (hb1.block _ KV.out.lt))
  have y0 : w1.cell? ⟨w.heap.size, 0, none⟩ = some (.int .i64 t.d) := (KT1.out.cell 0).trans (by simp)
  have y1 : w1.cell? ⟨w.heap.size, 1, none⟩ = some (.int .i64 t.i) := (KT1.out.cell 1).trans (by simp)
  have x0 : w1.cell? ⟨w.heap.size + 1, 0, none⟩ = some (.int .i64 v.c) := (KV1.out.cell 0).trans (by simp)
  have x1 : w1.cell? ⟨w.heap.size + 1, 1, none⟩ = some (.int .i64 v.n) := (KV1.out.cell 1).trans (by simp)
  have x2 : w1.cell? ⟨w.heap.size + 1, 2, none⟩ = some (.slice A4 v.ks.length cap4) := (KV1.out.cell 2).trans (by simp)
  have klt := KT1.out.lt
  have klt2 := KV1.out.lt
  cases q0 : valueValidB xs t v with
  | false =>
    have hf : Hid (fmtV xs t v = ⟨#[]⟩) := if_neg (by simp [q0])
    clear q0
    go_wp2
    go_ret
    exact ⟨ret_str hf.out.symm, hB1⟩
  | true =>
    have hf : Hid (fmtV xs t v = bs (vT xs 10 t v)) := if_pos q0
    obtain ⟨h1, h2, h3, h4⟩ := valid_parts q0
    have H1 := Lib.hid h1
    have H2 := Lib.hid h2
    have H3 := Lib.hid h3
    have H4 := Lib.hid h4
    clear h1 h2 h3 h4
    clear q0
    go_wp2_with fail
    refine (spec_l2Text v xs H1.out 10 (Nat.le_refl _) t H2.out H3.out H4.out w1 _ F _ G (ArrDt.below HX.out hB1 HF.out) (HF.out.mono hB1.size) (HV.out.below hB1 HG.out) (HG.out.mono hB1.size)).mono ?_
    rintro e w2 ⟨rfl, hb2⟩
    have hB2 := hB1.trans (hb2.mono hB1.size)
    go_wp2
    go_ret
    exact ⟨ret_str hf.out.symm, hB2⟩
end Go.Proofs.YtgckkiencmickaaDoor

namespace Go.Proofs.YtgckkiencmickaaDoor
open Go.Shelf Go.RowKit

open Go.Shelf
def Shelflays156_ren : Go.Shelf.Ren := ⟨fun | 156 => 38 | 165 => 54 | 166 => 55 | 169 => 56 | 240 => 75 | 241 => 76 | 276 => 87 | 277 => 88 | n => n, fun | 31 => 45 | 9 => 9 | 3 => 3 | 4 => 4 | 0 => 0 | 20 => 20 | 72 => 81 | 76 => 85 | 70 => 79 | 37 => 22 | 75 => 84 | 127 => 105 | 164 => 117 | 5 => 5 | 80 => 87 | n => n, fun | n => n⟩
theorem Shelflays156 : Go.Proofs.Lays.n156 Tryd.prog Shelflays156_ren := {
  mixed := by kernel_rfl
  f156 := Tryd.func38.trans (congrArg some (by kernel_rfl))
  f165 := Tryd.func54.trans (congrArg some (by kernel_rfl))
  f166 := Tryd.func55.trans (congrArg some (by kernel_rfl))
  f169 := Tryd.func56.trans (congrArg some (by kernel_rfl))
  f240 := Tryd.func75.trans (congrArg some (by kernel_rfl))
  f241 := Tryd.func76.trans (congrArg some (by kernel_rfl))
  f276 := Tryd.func87.trans (congrArg some (by kernel_rfl))
  f277 := Tryd.func88.trans (congrArg some (by kernel_rfl))
  t0 := Tryd.underlying0
  a0 := Tryd.isAgg0
  z0 := Tryd.sizeOf0
  v0 := Tryd.zeroValue0
  t3 := Tryd.underlying3
  a3 := Tryd.isAgg3
  z3 := Tryd.sizeOf3
  v3 := Tryd.zeroValue3
  t4 := Tryd.underlying4
  a4 := Tryd.isAgg4
  z4 := Tryd.sizeOf4
  v4 := Tryd.zeroValue4
  t9 := Tryd.underlying9
  a9 := Tryd.isAgg9
  z9 := Tryd.sizeOf9
  v9 := Tryd.zeroValue9
  t20 := Tryd.underlying20
  a20 := Tryd.isAgg20
  z20 := Tryd.sizeOf20
  v20 := Tryd.zeroValue20
  t31 := Tryd.underlying45
  a31 := Tryd.isAgg45
  z31 := Tryd.sizeOf45
  v31 := Tryd.zeroValue45
  t37 := Tryd.underlying22
  a37 := Tryd.isAgg22
  z37 := Tryd.sizeOf22
  v37 := Tryd.zeroValue22
  t70 := Tryd.underlying79
  a70 := Tryd.isAgg79
  z70 := Tryd.sizeOf79
  v70 := Tryd.zeroValue79
  t72 := Tryd.underlying81
  a72 := Tryd.isAgg81
  z72 := Tryd.sizeOf81
  v72 := Tryd.zeroValue81
  t75 := Tryd.underlying84
  a75 := Tryd.isAgg84
  z75 := Tryd.sizeOf84
  v75 := Tryd.zeroValue84
  t76 := Tryd.underlying85
  a76 := Tryd.isAgg85
  z76 := Tryd.sizeOf85
  v76 := Tryd.zeroValue85
  t127 := Tryd.underlying105
  a127 := Tryd.isAgg105
  z127 := Tryd.sizeOf105
  v127 := Tryd.zeroValue105
  t164 := Tryd.underlying117
  a164 := Tryd.isAgg117
  z164 := Tryd.sizeOf117
  v164 := Tryd.zeroValue117 }
theorem ShelfBuilder_Extra_156 : Builder.Extra Tryd.prog Shelflays156_ren := {
  sizeBuilder := by kernel_rfl
  liesBuilder := by kernel_rfl
  t5 := Tryd.underlying5
  a5 := Tryd.isAgg5
  z5 := Tryd.sizeOf5
  v5 := Tryd.zeroValue5
  infoByte := by kernel_rfl
  cellsByte := by kernel_rfl
  sizeByte := by kernel_rfl
  neB5 := by decide }
open Go.RowKit in
/-- No element: the empty string; the world is as it was. (Whatever the slice's address and capacity: a nil slice too.) (LAID: no walk: one application.) -/
theorem Shelfstrings_Join_none (a : Option Addr) (c : Nat) (sep : ByteArray) (w : World) :
    Calls Tryd.prog 38 #[.slice a 0 c, .string sep] w fun e w' => e = .returned (.string ⟨#[]⟩) ∧ w' = w := Any.strings_Join_none Shelflays156 ShelfBuilder_Extra_156 a c sep w
open Go.RowKit in
/-- strings.Join: "Join concatenates the elements of its first argument to create a single string. The separator string sep is placed between elements in the resulting string.": HOWEVER MANY ELEMENTS. Below the heap's end the world is as it was. (LAID: no walk: one application.) -/
theorem Shelfstrings_Join (bk o c : Nat) (xs : List ByteArray) (sep : ByteArray) (w : World) (hcells : ∀ (j : Nat) x, xs[j]? = some x → w.cell? ⟨bk, o + j, none⟩ = some (.string x)) (hbk : bk < w.heap.size) (hN : xs.length ≤ 140737488355328) (hcap : xs.length ≤ c) (hlen : (Lib.join (xs.map (·.data.toList)) sep.data.toList).length ≤ 140737488355328) :
    Calls Tryd.prog 38 #[.slice (some ⟨bk, o, none⟩) xs.length c, .string sep] w fun e w' => e = .returned (.string ⟨(Lib.join (xs.map (·.data.toList)) sep.data.toList).toArray⟩) ∧ Below w.heap.size w w' := Any.strings_Join Shelflays156 ShelfBuilder_Extra_156 bk o c xs sep w hcells hbk hN hcap hlen

theorem join_call (ss : List ByteArray) (sep : ByteArray) (hl : ss.length ≤ 1000) (hj : (Lib.join (ss.map tl) (tl sep)).length ≤ 1000000) (w : World) (v : Value) (F : List Nat) (hx : Arr w (StrR w) ss v F) (hf : Under w.heap.size F) :
    Calls Tryd.prog 38 #[v, .string sep] w fun e w' => e = .returned (.string (bs (Lib.join (ss.map tl) (tl sep)))) ∧ Below w.heap.size w w' := by
  obtain ⟨A, cap, rfl, hc1, hc2⟩ := hx.form
  rcases Nat.eq_zero_or_pos ss.length with h0 | h0
  · have h1 : ss = [] := List.length_eq_zero_iff.1 h0
    subst h1
    refine (Shelfstrings_Join_none A cap sep w).mono ?_
    rintro e w' ⟨rfl, rfl⟩
    exact ⟨rfl, Below.refl _ _⟩
  · obtain ⟨b, off, rfl⟩ := hx.ptr h0
    have hat := ArrStr.at hx hf (Below.refl _ _) 0 h0
    refine (Shelfstrings_Join b off cap ss sep w (fun j x hj => ?_) hat.1 (by omega) hc1 (by show (Lib.join (ss.map tl) (tl sep)).length ≤ _; omega)).mono ?_
    · obtain ⟨hjl, hje⟩ := List.getElem?_eq_some_iff.1 hj
      rw [← hje]
      exact (ArrStr.at hx hf (Below.refl _ _) j hjl).2
    · rintro e w' ⟨rfl, hb⟩
      exact ⟨rfl, hb⟩
end Go.Proofs.YtgckkiencmickaaDoor

namespace Go.Proofs.YtgckkiencmickaaDoor
open Go.RowKit

set_option maxRecDepth 100000 in
set_option maxHeartbeats 1600000 in
theorem impl_listed (ss : List ByteArray) (hl : ss.length ≤ 1000) (hj : (Lib.join (ss.map tl) [44]).length ≤ 1000000) (w : World) (v : Value) (F : List Nat) (hx : Arr w (StrR w) ss v F) (hf : Under w.heap.size F) :
    Calls Tryd.prog 22 #[v] w fun e w' => e = .returned (.string (bs (listedT ss))) ∧ Below w.heap.size w w' := by
  obtain ⟨A, cap, rfl, hc1, hc2⟩ := hx.form
  have HX := Lib.hid hx
  have HF := Lib.hid hf
  clear hx hf
  by_cases h0 : ss = []
  · have t0 : ((ss.length : Int) == 0) = true := by rw [h0]; rfl
    have hf : Hid (bs (listedT ss) = ⟨#[]⟩) := by unfold Hid listedT; rw [if_pos h0]; rfl
    clear h0
    go_enter Tryd.func22, Tryd.ntmps22
    go_wp2
    go_ret
    exact ⟨ret_str hf.out.symm, Below.refl _ _⟩
  · have t0 : ((ss.length : Int) == 0) = false := by
      rw [beq_eq_false_iff_ne]; intro h; exact h0 (List.length_eq_zero_iff.1 (by omega))
    have hf0 : bs (listedT ss) = (bs [40] ++ bs (Lib.join (ss.map tl) [44])) ++ bs [41] := by
      unfold listedT; rw [if_neg h0, bs_append, bs_append]; rfl
    have hsz : (bs (Lib.join (ss.map tl) [44])).size ≤ 1000000 := by rw [bs_size]; exact hj
    have HJ := Lib.hid hj
    clear h0 hj
    obtain ⟨J, hJ⟩ : ∃ j, bs (Lib.join (ss.map tl) [44]) = j := ⟨_, rfl⟩
    rw [hJ] at hf0 hsz
    have HJJ := Lib.hid hJ
    have hf := Lib.hid hf0
    clear hJ hf0
    have hj1 : 1 + J.size ≤ 9223372036854775807 := by omega
    have hj3 : ¬ 9223372036854775807 < 1 + J.size := by omega
    have hj4 : 1 + J.size + 1 ≤ 9223372036854775807 := by omega
    have hj5 : ¬ 9223372036854775807 < 1 + J.size + 1 := by omega
    go_enter Tryd.func22, Tryd.ntmps22
    go_wp2_with fail
    refine (join_call ss ⟨#[44]⟩ hl HJ.out w _ F HX.out HF.out).mono ?_
    rintro e w' ⟨rfl, hb'⟩
    rw [show bs (Lib.join (ss.map tl) (tl ⟨#[44]⟩)) = J from HJJ.out]
    go_wp2
    go_ret
    exact ⟨ret_str hf.out.symm, hb'⟩
end Go.Proofs.YtgckkiencmickaaDoor

namespace Go.Proofs.YtgckkiencmickaaDoor
open Go.RowKit

theorem tenDigits (k : Nat) (h : k < 10) : ByteArray.extract ⟨#[48, 49, 50, 51, 52, 53, 54, 55, 56, 57, 97, 98, 99, 100, 101, 102, 103, 104, 105, 106, 107, 108, 109, 110, 111, 112, 113, 114, 115, 116, 117, 118, 119, 120, 121, 122]⟩ k (k + 1) = bs (digT (k : Int)) := by
  have key : ∀ j : Fin 10, ByteArray.extract ⟨#[48, 49, 50, 51, 52, 53, 54, 55, 56, 57, 97, 98, 99, 100, 101, 102, 103, 104, 105, 106, 107, 108, 109, 110, 111, 112, 113, 114, 115, 116, 117, 118, 119, 120, 121, 122]⟩ j.1 (j.1 + 1) = bs (digT (j.1 : Int)) := by decide
  exact key ⟨k, h⟩
set_option maxRecDepth 100000 in
set_option maxHeartbeats 1600000 in
theorem strconv_Itoa (k : Nat) (h : k < 10) (w : World) : Calls Tryd.prog 20 #[.int .i64 (k : Int)] w fun e w' => e = .returned (.string (bs (digT (k : Int)))) ∧ Below w.heap.size w w' := by
  have t1 : decide (0 ≤ (k : Int)) = true := decide_eq_true (by omega)
  have t2 : decide ((k : Int) < 100) = true := decide_eq_true (by omega)
  have t3 : decide ((k : Int) < 10) = true := decide_eq_true (by omega)
  have t2' : decide (k < 100) = true := decide_eq_true (by omega)
  have t3' : decide (k < 10) = true := decide_eq_true (by omega)
  have a1 : IntKind.i64.wrap ((k : Int) + 1) = (k : Int) + 1 := IntWalk.i64_in _ (by omega)
  have g1 : (0 : Int) ≤ (k : Int) := by omega
  have g2 : (k : Int) + 1 ≤ 36 := by omega
  have g3 : (k : Int) ≤ (k : Int) + 1 := by omega
  have g4 : k + 1 ≤ 36 := by omega
  have hf := Lib.hid (tenDigits k h)
  clear h
  go_enter Tryd.func20, Tryd.ntmps20
  go_wp2
  go_ret
  exact ⟨by rw [← hf.out]; rfl, Below.refl _ _⟩
end Go.Proofs.YtgckkiencmickaaDoor
