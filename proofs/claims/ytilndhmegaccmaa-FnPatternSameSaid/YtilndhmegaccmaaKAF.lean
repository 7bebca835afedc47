/-
  Lemmas and contracts of functions: One part of a copied world written anew: what the world then stands for. Conditions: none. What l1Mutate makes of its copy of a world, case by case. Conditions: the lists are short. l1Copy of the reference: a deep copy of a world. Conditions: no list of it is longer than 100. l1Mutate of the reference: a copy of a world, sometimes made invalid. Conditions: its lists are short; the reader has given no more than 900000 numbers. l3Name of the reference at a node. Conditions: the reader has given no more than 900000 numbers. l3Name of the reference at a pattern for all values, and all. Conditions: the reader has given no more than 900000 numbers. Small functions of the reference on patterns: l3Kids, l3Own, l3Types. Conditions: the world is valid. l3Shape of the reference: the shape of a pattern, down to a depth. Conditions: the world is valid. l3Find of the reference. Conditions: none.
-/
import Derived.Test.YtilndhmegaccmaaKAE
import Derived.Test.YtilndhmegaccmaaKAD
import Derived.Test.YtilndhmegaccmaaKAB
import Derived.Deep.RegionWith
import Derived.Test.YtilndhmegaccmaaKAC
import Derived.Test.YtilndhmegaccmaaKAA
import Derived.Deep.RegionHeld3
import Derived.Deep.QuietTactic
import Derived.BigQuiet
import Derived.IntWalk

set_option linter.unusedVariables false
set_option linter.unusedSimpArgs false

namespace Go.Proofs.Ytilndhmegaccmaa
open Go.RowKit

theorem Arr.put {α : Type} {R R' : World → α → List Value → List Nat → Prop} {k : Nat} (hRl : ∀ w x cs G, R w x cs G → cs.length = k) (hRl' : ∀ w x cs G, R' w x cs G → cs.length = k)
    (hconv : ∀ w w' x cs G, Kept G w w' → R w x cs G → ∃ G', (∀ b ∈ G', b ∈ G) ∧ R' w' x cs G') {w : World} {xs : List α} {v : Value} {F : List Nat}
    (h : Arr w (R w) xs v F) (hfr : Free w F) {i : Nat} (hi : i < xs.length) :
    ∃ b off c F2 cap, v = .slice (some ⟨b, off, none⟩) xs.length cap ∧ CellsAt w b (off + i * k) c ∧ R w xs[i] c F2 ∧ Free w F2 ∧ b ∉ F2 ∧ b ∈ F ∧ (∀ x ∈ F2, x ∈ F) ∧ (∀ j, w.frozen? ⟨b, j, none⟩ = false) ∧
      ∀ w' y c' G2, (∀ j, j < off + i * k ∨ off + i * k + k ≤ j → w'.cell? ⟨b, j, none⟩ = w.cell? ⟨b, j, none⟩) → (∀ x ∈ F, x ≠ b → x ∉ F2 → w'.heap[x]? = w.heap[x]?) → CellsAt w' b (off + i * k) c' → R' w' y c' G2 →
        ∃ F', (∀ x ∈ F', x ∈ F ∨ x ∈ G2) ∧ Arr w' (R' w') (xs.set i y) v F' := by
  obtain ⟨A, cap, rfl, h1, h2, h3⟩ := h
  rcases h3 with ⟨rfl, -⟩ | ⟨b, off, cs, G, rfl, hc, hf, rfl⟩
  · simp at hi
  have hxs : xs = xs.take i ++ (xs[i] :: xs.drop (i + 1)) := by rw [← List.drop_eq_getElem_cons hi, List.take_append_drop]
  have hf' := hf
  rw [hxs] at hf'
  obtain ⟨c1, c23, F1, F23, rfl, rfl, g1, g23⟩ := Flat.split (xs.take i) hf'
  obtain ⟨c2, c3, F2, F3, rfl, rfl, g2, g3⟩ := g23
  have l1 : c1.length = i * k := by rw [g1.length (hRl w), List.length_take]; congr 1; omega
  have hc2 := hc.right
  rw [l1] at hc2
  have l2 := hRl _ _ _ _ g2
  have nd := List.nodup_cons.1 hfr.1
  have nd1 := List.nodup_append.1 nd.2
  have nd2 := List.nodup_append.1 nd1.2.1
  have hbF2 : b ∉ F2 := fun hb => nd.1 (List.mem_append.2 (.inr (List.mem_append.2 (.inl hb))))
  refine ⟨b, off, c2, F2, cap, rfl, hc2.left, g2, ⟨nd2.1, fun x hx j => hfr.2 x (by simp [hx]) j⟩, hbF2, by simp, fun x hx => by simp [hx], fun j => hfr.2 b (by simp) j, ?_⟩
  intro w' y c' G2 hcell hblk hc' hy
  have k1 : Kept F1 w w' := fun x hx => hblk x (by simp [hx]) (fun e => nd.1 (by simp [← e, hx])) (fun hm => nd1.2.2 x hx x (by simp [hm]) rfl)
  have k3 : Kept F3 w w' := fun x hx => hblk x (by simp [hx]) (fun e => nd.1 (by simp [← e, hx])) (fun hm => nd2.2.2 x hm x hx rfl)
  have lc' := hRl' _ _ _ _ hy
  have hxs' : xs.set i y = xs.take i ++ (y :: xs.drop (i + 1)) := by rw [List.set_eq_take_append_cons_drop, if_pos hi]
  obtain ⟨F1', s1, e1⟩ := Flat.weaken (R := fun x cs H => ∃ G', (∀ b ∈ G', b ∈ H) ∧ R' w' x cs G') (R' := R' w') (fun _ _ _ h => h) (g1.mono fun x _ cs H hH hr => hconv _ _ x cs H (fun z hz => k1 z (hH z hz)) hr)
  obtain ⟨F3', s3, e3⟩ := Flat.weaken (R := fun x cs H => ∃ G', (∀ b ∈ G', b ∈ H) ∧ R' w' x cs G') (R' := R' w') (fun _ _ _ h => h) (g3.mono fun x _ cs H hH hr => hconv _ _ x cs H (fun z hz => k3 z (hH z hz)) hr)
  refine ⟨b :: (F1' ++ (G2 ++ F3')), fun x hx => ?_, ?_⟩
  · rcases List.mem_cons.1 hx with rfl | hx
    · simp
    · rcases List.mem_append.1 hx with hx | hx
      · left; simp [s1 x hx]
      · rcases List.mem_append.1 hx with hx | hx
        · right; exact hx
        · left; simp [s3 x hx]
  · rw [hxs']
    refine ⟨_, cap, by rw [← hxs', List.length_set], by rw [← hxs', List.length_set]; exact h1, h2, .inr ⟨b, off, c1 ++ (c' ++ c3), F1' ++ (G2 ++ F3'), rfl, ?_, ?_, rfl⟩⟩
    · refine CellsAt.append (fun j u hj => ?_) (CellsAt.append ?_ (fun j u hj => ?_))
      · have hjl := (List.getElem?_eq_some_iff.1 hj).1
        rw [hcell _ (.inl (by omega))]
        exact hc.left j u hj
      · rw [l1]; exact hc'
      · rw [l1, hcell _ (.inr (by omega))]
        have := hc2.right j u hj
        rw [l2] at this
        rwa [lc']
    · exact e1.append ⟨c', c3, G2, F3', rfl, rfl, hy, e3⟩

theorem KtO.toR' {w w' : World} {c : Kt} {cs : List Value} {F : List Nat} (hk : Kept F w w') (h : KtO w c cs F) : ∃ G, (∀ b ∈ G, b ∈ F) ∧ KtR w' c cs G := KtO.toR (KtO_mono _ _ _ _ _ hk h)
theorem DtO.toR' {w w' : World} {c : Dt} {cs : List Value} {F : List Nat} (hk : Kept F w w') (h : DtO w c cs F) : ∃ G, (∀ b ∈ G, b ∈ F) ∧ DtR w' c cs G := DtO.toR (DtO_mono _ _ _ _ _ hk h)
theorem KtR_len0 (w : World) (c : Kt) (cs : List Value) (F : List Nat) (h : KtR w c cs F) : cs.length = 3 := by obtain ⟨kv, rfl, -⟩ := h; rfl
theorem DtR_len0 (w : World) (c : Dt) (cs : List Value) (F : List Nat) (h : DtR w c cs F) : cs.length = 2 := by obtain ⟨kv, rfl, -⟩ := h; rfl

/-- a data type's name or its list of constructors written anew -/
theorem put1 {w : World} {xs : List Dt} {v : Value} {F : List Nat} (h : Arr w (DtO w) xs v F) (hfr : Free w F) {d : Nat} (hd : d < xs.length) :
    ∃ b off cap kv F2, v = .slice (some ⟨b, off, none⟩) xs.length cap ∧ b ∈ F ∧ (∀ x ∈ F2, x ∈ F ∧ x ≠ b) ∧ (∀ j, w.frozen? ⟨b, j, none⟩ = false) ∧ w.cell? ⟨b, off + d * 2, none⟩ = some (.string xs[d].name) ∧ w.cell? ⟨b, off + d * 2 + 1, none⟩ = some kv ∧
      Arr w (KtO w) xs[d].ctors kv F2 ∧ xs[d].name.size ≤ 9223372036854775807 ∧
      ∀ w' nm ks kv' G2, (∀ j, j < off + d * 2 ∨ off + d * 2 + 2 ≤ j → w'.cell? ⟨b, j, none⟩ = w.cell? ⟨b, j, none⟩) → (∀ x ∈ F, x ≠ b → w'.heap[x]? = w.heap[x]?) → w'.cell? ⟨b, off + d * 2, none⟩ = some (.string nm) → w'.cell? ⟨b, off + d * 2 + 1, none⟩ = some kv' →
        Arr w' (KtR w') ks kv' G2 → nm.size ≤ 9223372036854775807 → ∃ F', (∀ x ∈ F', x ∈ F ∨ x ∈ G2) ∧ Arr w' (DtR w') (xs.set d ⟨nm, ks⟩) v F' := by
  obtain ⟨b, off, c, F2, cap, e, hc, ⟨kv, rfl, ha, hs⟩, hf2, hb2, hbF, hsub, hz, H⟩ := Arr.put (R := DtO) (R' := DtR) DtO_len DtR_len0 (fun _ _ _ _ _ hk h => DtO.toR' hk h) h hfr hd
  refine ⟨b, off, cap, kv, F2, e, hbF, fun x hx => ⟨hsub x hx, fun e => hb2 (e ▸ hx)⟩, hz, by simpa using hc 0 _ rfl, hc 1 _ rfl, ha, hs, ?_⟩
  intro w' nm ks kv' G2 h1 h2 h3 h4 h5 h6
  exact H w' ⟨nm, ks⟩ [.string nm, kv'] G2 h1 (fun x hx hxb _ => h2 x hx hxb) (CellsAt.cons h3 (CellsAt.cons h4 (CellsAt.nil _ _ _))) ⟨kv', rfl, h5, h6⟩
/-- the first constructor of a data type written anew -/
theorem put2 {w : World} {xs : List Dt} {v : Value} {F : List Nat} (h : Arr w (DtO w) xs v F) (hfr : Free w F) {d : Nat} (hd : d < xs.length) (hk : 0 < xs[d].ctors.length) :
    ∃ b off cap b2 off2 cap2 av, v = .slice (some ⟨b, off, none⟩) xs.length cap ∧ b ∈ F ∧ b2 ∈ F ∧ b2 ≠ b ∧ (∀ j, w.frozen? ⟨b, j, none⟩ = false) ∧ (∀ j, w.frozen? ⟨b2, j, none⟩ = false) ∧
      w.cell? ⟨b, off + d * 2 + 1, none⟩ = some (.slice (some ⟨b2, off2, none⟩) xs[d].ctors.length cap2) ∧
      w.cell? ⟨b2, off2, none⟩ = some (.string xs[d].ctors[0].name) ∧ w.cell? ⟨b2, off2 + 1, none⟩ = some av ∧ w.cell? ⟨b2, off2 + 2, none⟩ = some (.int .i64 xs[d].ctors[0].idx) ∧
      Own w 0 32 2 TyR xs[d].ctors[0].args av [] ∧ (∀ x ∈ rowOf av, x ∈ F ∧ x ≠ b ∧ x ≠ b2) ∧ xs[d].ctors[0].name.size ≤ 9223372036854775807 ∧
      ∀ w' nm ags ix av' G2, (∀ j, j < off2 ∨ off2 + 3 ≤ j → w'.cell? ⟨b2, j, none⟩ = w.cell? ⟨b2, j, none⟩) → (∀ x ∈ F, x ≠ b2 → x ∉ rowOf av → w'.heap[x]? = w.heap[x]?) →
        w'.cell? ⟨b2, off2, none⟩ = some (.string nm) → w'.cell? ⟨b2, off2 + 1, none⟩ = some av' → w'.cell? ⟨b2, off2 + 2, none⟩ = some (.int .i64 ix) →
        Arr w' (TyR w') ags av' G2 → nm.size ≤ 9223372036854775807 → ∃ F', (∀ x ∈ F', x ∈ F ∨ x ∈ G2) ∧ Arr w' (DtR w') (xs.set d ⟨xs[d].name, xs[d].ctors.set 0 ⟨nm, ags, ix⟩⟩) v F' := by
  obtain ⟨b, off, c, F2, cap, e, hc, ⟨kv, rfl, ha, hs⟩, hf2, hb2, hbF, hsub, hz, H⟩ := Arr.put (R := DtO) (R' := DtR) DtO_len DtR_len0 (fun _ _ _ _ _ hk h => DtO.toR' hk h) h hfr hd
  obtain ⟨b2, off2, c2, F3, cap2, rfl, hc2, ⟨av, rfl, hown, rfl, hs2⟩, hf3, hb3, hbF2, hsub2, hz2, H2⟩ := Arr.put (R := KtO) (R' := KtR) KtO_len KtR_len0 (fun _ _ _ _ _ hk h => KtO.toR' hk h) ha hf2 hk
  simp only [Nat.zero_mul, Nat.add_zero] at hc2 H2
  refine ⟨b, off, cap, b2, off2, cap2, av, e, hbF, hsub _ hbF2, fun e => hb2 (e ▸ hbF2), hz, hz2, hc 1 _ rfl, by simpa using hc2 0 _ rfl, hc2 1 _ rfl, hc2 2 _ rfl, hown, fun x hx => ⟨hsub _ (hsub2 x hx), fun e => hb2 (e ▸ hsub2 x hx), fun e => hb3 (e ▸ hx)⟩, hs2, ?_⟩
  intro w' nm ags ix av' G2 h1 h2 h3 h4 h5 h6 h7
  obtain ⟨F2', s2, ha2⟩ := H2 w' ⟨nm, ags, ix⟩ [.string nm, av', .int .i64 ix] G2 h1 (fun x hx hxb hxa => h2 x (hsub x hx) hxb hxa) (CellsAt.cons h3 (CellsAt.cons h4 (CellsAt.cons h5 (CellsAt.nil _ _ _)))) ⟨av', rfl, h6, h7⟩
  have hbb : w'.heap[b]? = w.heap[b]? := h2 b hbF (fun e => hb2 (e ▸ hbF2)) (fun hx => hb2 (hsub2 _ hx))
  obtain ⟨F', s, ha'⟩ := H w' ⟨xs[d].name, xs[d].ctors.set 0 ⟨nm, ags, ix⟩⟩ [.string xs[d].name, .slice (some ⟨b2, off2, none⟩) xs[d].ctors.length cap2] F2' (fun j _ => World.cell?_of_block (a := ⟨b, j, none⟩) hbb)
    (fun x hx hxb hx2 => h2 x hx (fun e => hx2 (e ▸ hbF2)) (fun hxa => hx2 (hsub2 _ hxa))) (fun j u hj => (World.cell?_of_block (a := ⟨b, off + d * 2 + j, none⟩) hbb).trans (hc j u hj)) ⟨_, rfl, ha2, hs⟩
  exact ⟨F', fun x hx => by
    rcases s x hx with h | h
    · exact .inl h
    · rcases s2 x h with h | h
      · exact .inl (hsub x h)
      · exact .inr h, ha'⟩
end Go.Proofs.Ytilndhmegaccmaa

namespace Go.Proofs.Ytilndhmegaccmaa
open Go.RowKit

theorem Rd.same {w w' : World} {g p : Nat} (h : Rd w g p) (hk : ∀ b, b ≤ g → w'.heap[b]? = w.heap[b]?) : Rd w' g p := by
  obtain ⟨A, cap, bs, F, h1, h2, h3, h5⟩ := h
  exact ⟨A, cap, bs, F, h1.same (hk g (Nat.le_refl _)), ArrBy.mono h2 (fun c hc => hk c (Nat.le_of_lt (h3 c hc))), h3, h5⟩
theorem Rd.low {w w' : World} {g p B : Nat} (h : Rd w g p) (hb : Below B w w') (hg : g < B) : Rd w' g p := h.same fun b hb' => hb.block b (by omega)
theorem SmallW.set {n : Nat} {xs : List Dt} {d : Nat} {y : Dt} (h : SmallW n xs) (h1 : y.ctors.length ≤ n) (h2 : ∀ c ∈ y.ctors, c.args.length ≤ n) : SmallW n (xs.set d y) := fun x hx => by
  rcases List.mem_or_eq_of_mem_set hx with hx | rfl
  · exact h x hx
  · exact ⟨h1, h2⟩
theorem SmallW.mono {n m : Nat} {xs : List Dt} (h : SmallW n xs) (hm : n ≤ m) : SmallW m xs := fun x hx => ⟨Nat.le_trans (h x hx).1 hm, fun c hc => Nat.le_trans ((h x hx).2 c hc) hm⟩

/-- the copy in the walk of l1Mutate: w is the world at the call, w1 the world now -/
structure Cpy (g q : Nat) (xs : List Dt) (v : Value) (F : List Nat) (w w1 : World) : Prop where
  rd : Rd w1 g q
  chg : Chg [g] w w1
  own : Own w1 w.heap.size 97 2 DtO xs v F
  free : Free w1 F
  fresh : ∀ b ∈ F, w.heap.size ≤ b
  lt : g < w.heap.size
/-- what l1Mutate gives -/
def Mutd (g p m : Nat) (xs : List Dt) (w : World) (e : Ending) (w' : World) : Prop := DrewWorld g p 10 w (fun ys => 0 < ys.length ∧ ys.length ≤ xs.length + 1 ∧ SmallW (m + 1) ys) e w'

section
variable {g q p m : Nat} {xs : List Dt} {v : Value} {F : List Nat} {w w1 w2 : World}
theorem Cpy.step {q' : Nat} (h : Cpy g q xs v F w w1) (hr : Rd w2 g q') (hc : Chg [g] w1 w2) : Cpy g q' xs v F w w2 := by
  have hu := h.own.under
  have hro := h.own.row
  have hlt := h.lt
  refine ⟨hr, h.chg.trans hc, h.own.mono (fun x cs G hk h => DtO_mono _ _ x cs G hk h) (hc.kept (fun b hb => ?_) (fun b hb => ?_)) hc.size, h.free.kept (hc.kept hu (fun b hb => ?_)), h.fresh, hlt⟩
  · rcases List.mem_append.1 hb with h1 | h1
    · exact (hro b h1).2
    · exact hu b h1
  · rw [List.mem_singleton]
    rcases List.mem_append.1 hb with h1 | h1
    · have := (hro b h1).1; omega
    · have := h.fresh b h1; omega
  · rw [List.mem_singleton]
    have := h.fresh b hb; omega
theorem Cpy.drew (h : Cpy g q xs v F w w1) : Cpy g q xs v F w w1.drew := h.step h.rd (Chg.refl _ _).drew
theorem Cpy.arr (h : Cpy g q xs v F w w1) : ∃ FF, Arr w1 (DtO w1) xs v FF ∧ Free w1 FF ∧ ∀ b ∈ FF, w.heap.size ≤ b ∧ b < w1.heap.size := by
  refine ⟨_, h.own.arr, h.own.free h.free, fun b hb => ?_⟩
  split at hb
  · cases hb
  · rcases List.mem_append.1 hb with h1 | h1
    · exact h.own.row b h1
    · exact ⟨h.fresh b h1, h.own.under b h1⟩
theorem Mutd.of {ys : List Dt} {q' : Nat} {G : List Nat} (h : Arr w1 (DtR w1) ys v G) (hG : ∀ b ∈ G, w.heap.size ≤ b ∧ b < w1.heap.size) (hr : Rd w1 g q') (hq : q' ≤ p + 10) (hc : Chg [g] w w1) (h0 : 0 < ys.length) (hl : ys.length ≤ xs.length + 1) (hs : SmallW (m + 1) ys) : Mutd g p m xs w (.returned v) w1 :=
  ⟨ys, v, G, q', rfl, ⟨h0, hl, hs⟩, h, hG, hr, hq, hc⟩
theorem Cpy.done (h : Cpy g q xs v F w w1) (h0 : 0 < xs.length) (hs : SmallW m xs) (hq : q ≤ p + 10) : Mutd g p m xs w (.returned v) w1 := by
  obtain ⟨FF, ha, -, hF⟩ := h.arr
  obtain ⟨G, hG, ha'⟩ := ArrDtO.toR ha
  exact Mutd.of ha' (fun b hb => hF b (hG b hb)) h.rd hq h.chg h0 (Nat.le_succ _) (hs.mono (by omega))
/-- a data type in view -/
theorem Cpy.data {b off n cap d : Nat} (h : Cpy g q xs (.slice (some ⟨b, off, none⟩) n cap) F w w1) (h0 : 0 < xs.length) (hs : SmallW m xs) (hd : d < xs.length) :
    ∃ kA kcap F2, w1.cell? ⟨b, off + d * 2, none⟩ = some (.string xs[d].name) ∧ w1.cell? ⟨b, off + d * 2 + 1, none⟩ = some (.slice kA xs[d].ctors.length kcap) ∧ (∀ j, w1.frozen? ⟨b, j, none⟩ = false) ∧ w.heap.size ≤ b ∧ b < w1.heap.size ∧ xs[d].ctors.length ≤ kcap ∧ kcap ≤ 9223372036854775807 ∧
      DtO w1 xs[d] [.string xs[d].name, .slice kA xs[d].ctors.length kcap] F2 ∧ (∀ x ∈ F2, x ≠ b ∧ w.heap.size ≤ x ∧ x < w1.heap.size) ∧
      (∀ s : ByteArray, s.size ≤ 1000 → q ≤ p + 10 → Mutd g p m xs w (.returned (.slice (some ⟨b, off, none⟩) n cap)) (w1.setCell ⟨b, off + d * 2, none⟩ (.string s))) ∧
      (∀ E, q ≤ p + 10 → Mutd g p m xs w (.returned (.slice (some ⟨b, off, none⟩) n cap)) ((w1.setCell ⟨b, off + d * 2 + 1, none⟩ (.slice (some ⟨w1.heap.size, 0, none⟩) 0 0)).alloc (.cells #[] E))) := by
  obtain ⟨FF, ha, hfr, hF⟩ := h.arr
  obtain ⟨b', off', cap', kv, F2, e, hbF, hF2, hz, hn, hk, hkv, hns, H⟩ := put1 ha hfr hd
  cases e
  obtain ⟨kA, kcap, rfl, hc1, hc2⟩ := hkv.form
  have hb := hF _ hbF
  have hg := h.lt
  have hsd := hs _ (List.getElem_mem hd)
  refine ⟨kA, kcap, F2, hn, hk, hz, hb.1, hb.2, hc1, hc2, ⟨_, rfl, hkv, hns⟩, fun x hx => ⟨(hF2 x hx).2, hF x (hF2 x hx).1⟩, fun s hss hq => ?_, fun E hq => ?_⟩
  · obtain ⟨G, hG, hka⟩ := (hkv.mono (w' := w1.setCell ⟨b, off + d * 2, none⟩ (.string s)) (R' := KtO (w1.setCell ⟨b, off + d * 2, none⟩ (.string s))) (fun c hc => Below.heap_setCell _ _ _ _ (hF2 c hc).2) (fun y _ cs G hk h => KtO_mono _ _ y cs G hk h)).weaken fun _ _ _ h => KtO.toR h
    obtain ⟨F', hF', har⟩ := H _ s xs[d].ctors (.slice kA xs[d].ctors.length kcap) G (fun j hj => World.cell?_setCell_other _ _ _ _ (by intro e; injection e; omega)) (fun x hx hxb => Below.heap_setCell _ _ _ _ hxb)
      (World.cell?_setCell_same _ _ _ hn) ((World.cell?_setCell_other _ _ _ _ (by intro e; injection e; omega)).trans hk) hka (by omega)
    refine Mutd.of har (fun x hx => ?_) (h.rd.set (by omega)) hq (h.chg.set_new hb.1) (by rw [List.length_set]; exact h0) (by rw [List.length_set]; exact Nat.le_succ _) ((hs.mono (by omega)).set (by simpa using Nat.le_trans hsd.1 (by omega)) (fun c hc => Nat.le_trans (hsd.2 c hc) (by omega)))
    have hsz : (w1.setCell ⟨b, off + d * 2, none⟩ (.string s)).heap.size = w1.heap.size := by simp [World.setCell]
    rw [hsz]
    rcases hF' x hx with h1 | h1
    · exact hF x h1
    · exact hF x (hF2 x (hG x h1)).1
  · rw [← World.setCell_alloc_past _ _ _ _ hb.2]
    have hblk : ∀ x, x < w1.heap.size → x ≠ b → ((w1.alloc (.cells #[] E)).setCell ⟨b, off + d * 2 + 1, none⟩ (.slice (some ⟨w1.heap.size, 0, none⟩) 0 0)).heap[x]? = w1.heap[x]? := fun x hx hxb => (Below.heap_setCell _ _ _ _ hxb).trans (Below.heap_alloc _ _ _ hx)
    have hce : ∀ j, (w1.alloc (.cells #[] E)).cell? ⟨b, j, none⟩ = w1.cell? ⟨b, j, none⟩ := fun j => World.cell?_alloc_lt _ _ _ hb.2
    obtain ⟨F', hF', har⟩ := H _ xs[d].name [] (.slice (some ⟨w1.heap.size, 0, none⟩) 0 0) [] (fun j hj => (World.cell?_setCell_other _ _ _ _ (by intro e; injection e; omega)).trans (hce j)) (fun x hx hxb => hblk x (hF x hx).2 hxb)
      ((World.cell?_setCell_other _ _ _ _ (by intro e; injection e; omega)).trans ((hce _).trans hn)) (World.cell?_setCell_same _ _ _ ((hce _).trans hk)) ⟨_, _, rfl, by simp, by simp [maxLen], .inl ⟨rfl, rfl⟩⟩ hns
    have hsz : ((w1.alloc (.cells #[] E)).setCell ⟨b, off + d * 2 + 1, none⟩ (.slice (some ⟨w1.heap.size, 0, none⟩) 0 0)).heap.size = w1.heap.size + 1 := by simp [World.setCell]
    have hbel : Below w1.heap.size w1 (w1.alloc (.cells #[] E)) := (Below.refl _ _).alloc (Nat.le_refl _) _
    refine Mutd.of har (fun x hx => ?_) ((h.rd.below hbel).set (by omega)) hq ((h.chg.step hbel).set_new hb.1) (by rw [List.length_set]; exact h0) (by rw [List.length_set]; exact Nat.le_succ _) ((hs.mono (by omega)).set (by simp) (fun c hc => by cases hc))
    rw [hsz]
    rcases hF' x hx with h1 | h1
    · have := hF x h1; omega
    · cases h1
/-- the first constructor in view -/
theorem Cpy.ctor {b off n cap d : Nat} (h : Cpy g q xs (.slice (some ⟨b, off, none⟩) n cap) F w w1) (h0 : 0 < xs.length) (hs : SmallW m xs) (hd : d < xs.length) (hk : 0 < xs[d].ctors.length) :
    ∃ b2 off2 cap2 aA acap, w1.cell? ⟨b, off + d * 2 + 1, none⟩ = some (.slice (some ⟨b2, off2, none⟩) xs[d].ctors.length cap2) ∧ b ≠ b2 ∧ b ∉ [g] ∧ b2 ∉ [g] ∧ b < w1.heap.size ∧ b2 < w1.heap.size ∧ (∀ j, w1.frozen? ⟨b2, j, none⟩ = false) ∧
      w1.cell? ⟨b2, off2, none⟩ = some (.string xs[d].ctors[0].name) ∧ w1.cell? ⟨b2, off2 + 1, none⟩ = some (.slice aA xs[d].ctors[0].args.length acap) ∧ w1.cell? ⟨b2, off2 + 2, none⟩ = some (.int .i64 xs[d].ctors[0].idx) ∧
      Own w1 0 32 2 TyR xs[d].ctors[0].args (.slice aA xs[d].ctors[0].args.length acap) [] ∧ (∀ x ∈ rowOf (.slice aA xs[d].ctors[0].args.length acap), x ∉ [g] ∧ x ≠ b ∧ x ≠ b2 ∧ x < w1.heap.size) ∧ xs[d].ctors[0].args.length ≤ m ∧
      (∀ (w2 : World) (q' : Nat) (s : ByteArray), Rd w2 g q' → Chg [g] w1 w2 → q' ≤ p + 10 → s.size ≤ 1000 → Mutd g p m xs w (.returned (.slice (some ⟨b, off, none⟩) n cap)) (w2.setCell ⟨b2, off2, none⟩ (.string s))) ∧
      (∀ (w2 : World) (q' : Nat) (i : Int), Rd w2 g q' → Chg [g] w1 w2 → q' ≤ p + 10 → Mutd g p m xs w (.returned (.slice (some ⟨b, off, none⟩) n cap)) (w2.setCell ⟨b2, off2 + 2, none⟩ (.int .i64 i))) ∧
      (∀ (w2 : World) (q' : Nat) (y : Ty) (g' c' : Nat) (w3 : World) (o : Obj), Rd w2 g q' → Chg [g] w1 w2 → q' ≤ p + 10 → Own w3 0 32 2 TyR (xs[d].ctors[0].args ++ [y]) (.slice (some ⟨g', 0, none⟩) (xs[d].ctors[0].args.length + 1) c') [] →
        (w2.alloc o).grownBy w3 (Value.slice aA xs[d].ctors[0].args.length acap).ownBlock → ((Value.slice aA xs[d].ctors[0].args.length acap).ownBlock = some g' ∨ g' = w2.heap.size + 1) →
        Mutd g p m xs w (.returned (.slice (some ⟨b, off, none⟩) n cap)) (w3.setCell ⟨b2, off2 + 1, none⟩ (.slice (some ⟨g', 0, none⟩) (xs[d].ctors[0].args.length + 1) c'))) := by
  obtain ⟨FF, ha, hfr, hF⟩ := h.arr
  obtain ⟨b', off', cap', b2, off2, cap2, av, e, hbF, hb2F, hbb, hz, hz2, hkc, c0, c1, c2, hown, hrow, hns, H⟩ := put2 ha hfr hd hk
  cases e
  obtain ⟨aA, acap, rfl, -, -⟩ := hown.form
  have hb := hF _ hbF
  have hb2 := hF _ hb2F
  have hg := h.lt
  have hsd := hs _ (List.getElem_mem hd)
  have hsa := hsd.2 _ (List.getElem_mem hk)
  have hFg : ∀ x ∈ FF, x ∉ [g] := fun x hx => by have := (hF x hx).1; rw [List.mem_singleton]; omega
  have small : ∀ c : Kt, c.args.length ≤ m + 1 → SmallW (m + 1) (xs.set d ⟨xs[d].name, xs[d].ctors.set 0 c⟩) := fun c hc => (hs.mono (by omega)).set (by simp only [List.length_set]; omega) (fun k hk' => by
    rcases List.mem_or_eq_of_mem_set hk' with h1 | rfl
    · exact Nat.le_trans (hsd.2 _ h1) (by omega)
    · exact hc)
  refine ⟨b2, off2, cap2, aA, acap, hkc, fun e => hbb e.symm, hFg _ hbF, hFg _ hb2F, hb.2, hb2.2, hz2, c0, c1, c2, hown, fun x hx => ⟨hFg _ (hrow x hx).1, (hrow x hx).2.1, (hrow x hx).2.2, (hF _ (hrow x hx).1).2⟩, hsa, fun w2 q' s hr hc hq hss => ?_, fun w2 q' i hr hc hq => ?_, fun w2 q' y g' c' w3 o hr hc hq ho3 hg3 hat => ?_⟩
  · have hcl : ∀ j, w2.cell? ⟨b2, j, none⟩ = w1.cell? ⟨b2, j, none⟩ := fun j => hc.cell hb2.2 (hFg _ hb2F)
    have hkp : ∀ x ∈ FF, x ≠ b2 → (w2.setCell ⟨b2, off2, none⟩ (.string s)).heap[x]? = w1.heap[x]? := fun x hx hxb => (Below.heap_setCell _ _ _ _ hxb).trans (hc.block x (hF x hx).2 (hFg x hx))
    have ho2 := (hown.mono0 (w' := w2.setCell ⟨b2, off2, none⟩ (.string s)) (fun x cs G (h : TyR w1 x cs G) => (h : TyR _ x cs G)) (fun x hx => hkp x (hrow x hx).1 (hrow x hx).2.2)).arr
    obtain ⟨F', hF', har⟩ := H (w2.setCell ⟨b2, off2, none⟩ (.string s)) s _ xs[d].ctors[0].idx _ _ (fun j hj => (World.cell?_setCell_other _ _ _ _ (by intro e; injection e; omega)).trans (hcl j)) (fun x hx hxb _ => hkp x hx hxb)
      (World.cell?_setCell_same _ _ _ ((hcl _).trans c0)) ((World.cell?_setCell_other _ _ _ _ (by intro e; injection e; omega)).trans ((hcl _).trans c1)) ((World.cell?_setCell_other _ _ _ _ (by intro e; injection e; omega)).trans ((hcl _).trans c2)) ho2 (by omega)
    have hsz : (w2.setCell ⟨b2, off2, none⟩ (.string s)).heap.size = w2.heap.size := by simp [World.setCell]
    refine Mutd.of har (fun x hx => ?_) (hr.set (by omega)) hq ((h.chg.trans hc).set_new hb2.1) (by rw [List.length_set]; exact h0) (by rw [List.length_set]; exact Nat.le_succ _) (small _ (by simp only; omega))
    rw [hsz]
    have hz2 := hc.size
    rcases hF' x hx with h1 | h1
    · have := hF x h1; omega
    · split at h1
      · cases h1
      · rw [List.append_nil] at h1
        have := hF x (hrow x h1).1; omega
  · have hcl : ∀ j, w2.cell? ⟨b2, j, none⟩ = w1.cell? ⟨b2, j, none⟩ := fun j => hc.cell hb2.2 (hFg _ hb2F)
    have hkp : ∀ x ∈ FF, x ≠ b2 → (w2.setCell ⟨b2, off2 + 2, none⟩ (.int .i64 i)).heap[x]? = w1.heap[x]? := fun x hx hxb => (Below.heap_setCell _ _ _ _ hxb).trans (hc.block x (hF x hx).2 (hFg x hx))
    have ho2 := (hown.mono0 (w' := w2.setCell ⟨b2, off2 + 2, none⟩ (.int .i64 i)) (fun x cs G (h : TyR w1 x cs G) => (h : TyR _ x cs G)) (fun x hx => hkp x (hrow x hx).1 (hrow x hx).2.2)).arr
    obtain ⟨F', hF', har⟩ := H (w2.setCell ⟨b2, off2 + 2, none⟩ (.int .i64 i)) xs[d].ctors[0].name _ i _ _ (fun j hj => (World.cell?_setCell_other _ _ _ _ (by intro e; injection e; omega)).trans (hcl j)) (fun x hx hxb _ => hkp x hx hxb)
      ((World.cell?_setCell_other _ _ _ _ (by intro e; injection e; omega)).trans ((hcl _).trans c0)) ((World.cell?_setCell_other _ _ _ _ (by intro e; injection e; omega)).trans ((hcl _).trans c1)) (World.cell?_setCell_same _ _ _ ((hcl _).trans c2)) ho2 hns
    have hsz : (w2.setCell ⟨b2, off2 + 2, none⟩ (.int .i64 i)).heap.size = w2.heap.size := by simp [World.setCell]
    refine Mutd.of har (fun x hx => ?_) (hr.set (by omega)) hq ((h.chg.trans hc).set_new hb2.1) (by rw [List.length_set]; exact h0) (by rw [List.length_set]; exact Nat.le_succ _) (small _ (by simp only; omega))
    rw [hsz]
    have hz2 := hc.size
    rcases hF' x hx with h1 | h1
    · have := hF x h1; omega
    · split at h1
      · cases h1
      · rw [List.append_nil] at h1
        have := hF x (hrow x h1).1; omega
  · have hrw : ∀ x, (Value.slice aA xs[d].ctors[0].args.length acap).ownBlock = some x → w.heap.size ≤ x ∧ x ≠ b2 := fun x hx => ⟨(hF x (hrow x (mem_rowOf.2 hx)).1).1, (hrow x (mem_rowOf.2 hx)).2.2⟩
    have hwz : w.heap.size ≤ w1.heap.size := h.chg.size
    have hw2 : w1.heap.size ≤ w2.heap.size := hc.size
    have hB3 : Below w.heap.size w2 w3 := ((Below.refl w.heap.size w2).alloc (by omega) o).grown hg3 (by simp; omega) (fun x hx => (hrw x hx).1)
    have hblk : ∀ x, x < w2.heap.size → x ∉ rowOf (Value.slice aA xs[d].ctors[0].args.length acap) → w3.heap[x]? = w2.heap[x]? := fun x hx hxr => (hg3.block x (by simp; omega) (fun e => hxr (mem_rowOf.2 e.symm))).trans (Below.heap_alloc _ _ _ hx)
    have hb2r : b2 ∉ rowOf (Value.slice aA xs[d].ctors[0].args.length acap) := fun hx => (hrow _ hx).2.2 rfl
    have hb3 : w3.heap[b2]? = w1.heap[b2]? := (hblk b2 (by omega) hb2r).trans (hc.block _ hb2.2 (hFg _ hb2F))
    have hcl : ∀ j, w3.cell? ⟨b2, j, none⟩ = w1.cell? ⟨b2, j, none⟩ := fun j => World.cell?_of_block (a := ⟨b2, j, none⟩) hb3
    have hgn : g' ≠ b2 := by
      rcases hat with h1 | h1
      · exact (hrw _ h1).2
      · omega
    have ho2 := (Own.set (j := off2 + 1) (b := b2) TyR_mono' ho3 (.slice (some ⟨g', 0, none⟩) (xs[d].ctors[0].args.length + 1) c') (fun h => hgn (by rw [rowOf_some, List.mem_singleton] at h; exact h.symm)) (fun h => by cases h))
    have hro2 := ho2.row
    have har2 := ho2.arr
    obtain ⟨F', hF', har⟩ := H (w3.setCell ⟨b2, off2 + 1, none⟩ (.slice (some ⟨g', 0, none⟩) (xs[d].ctors[0].args.length + 1) c')) xs[d].ctors[0].name _ xs[d].ctors[0].idx _ _ (fun j hj => (World.cell?_setCell_other _ _ _ _ (by intro e; injection e; omega)).trans (hcl j))
      (fun x hx hxb hxr => (Below.heap_setCell _ _ _ _ hxb).trans ((hblk x (by have := hF x hx; omega) hxr).trans (hc.block x (hF x hx).2 (hFg x hx))))
      ((World.cell?_setCell_other _ _ _ _ (by intro e; injection e; omega)).trans ((hcl _).trans c0)) (World.cell?_setCell_same _ _ _ ((hcl _).trans c1)) ((World.cell?_setCell_other _ _ _ _ (by intro e; injection e; omega)).trans ((hcl _).trans c2)) har2 hns
    have hsz : (w3.setCell ⟨b2, off2 + 1, none⟩ (.slice (some ⟨g', 0, none⟩) (xs[d].ctors[0].args.length + 1) c')).heap.size = w3.heap.size := by simp [World.setCell]
    have hz3 : w2.heap.size ≤ w3.heap.size := hB3.size
    have hgw : w.heap.size ≤ g' := by
      rcases hat with h1 | h1
      · exact (hrw _ h1).1
      · omega
    refine Mutd.of har (fun x hx => ?_) ((hr.low hB3 hg).set (by omega)) hq (((h.chg.trans hc).under hB3).set_new hb2.1) (by rw [List.length_set]; exact h0) (by rw [List.length_set]; exact Nat.le_succ _) (small _ (by simp only [List.length_append, List.length_cons, List.length_nil]; omega))
    rcases hF' x hx with h1 | h1
    · rw [hsz]; have := hF x h1; omega
    · split at h1
      · cases h1
      · rw [List.append_nil] at h1
        have h2 := hro2 x h1
        rw [rowOf_some, List.mem_singleton] at h1
        exact ⟨by omega, h2.2⟩
end
end Go.Proofs.Ytilndhmegaccmaa

namespace Go.Proofs.Ytilndhmegaccmaa
open Go.RowKit

def dtk (xs : List Dt) (d : Nat) : List Dt := xs.take d
def ktk (cs : List Kt) (k : Nat) : List Kt := cs.take k
theorem wpList_append_run {P : Program} {w : World} {ops : Array Oper} {rest : List Oper} {o : Oper} {a : Act} {Q : Exit → Act → World → Prop} (hgd : o.guard = none) (s x : Operand) (t : TypeId)
    (ho : o.op = .call { callee := .builtin .append, args := #[s, x], argTypes := #[t, t] }) {sv xv v' : Value} {w' : World} (hs : a.eval s = sv) (hx : a.eval x = xv)
    (hr : (Builtin.append_ #[t, t] o.type #[sv, xv]).run P w = .ok v' w') (h : wpList P ops Q rest (a.put o.dst v') w') : wpList P ops Q (o :: rest) a w := by
  refine wpList_plain hgd fun K hK => ?_
  unfold Oper.wp execOp
  simp only [ho, resolve, invoke, builtin, Sem.run_bind, Sem.run_pure, Result.andThen_ok, List.map_toArray, List.map_cons, List.map_nil, hs, hx, hr]
  exact hK _ _ h
end Go.Proofs.Ytilndhmegaccmaa

namespace Go.Proofs.Ytilndhmegaccmaa
open Go.RowKit

def LitN (w : World) (b : Nat) (ls : List Int) : Prop := b < w.heap.size ∧ Arr w (NatR w) ls (.slice (some ⟨b, 0, none⟩) ls.length ls.length) [b]
theorem LitN.new (w : World) (ls : List Int) (hl : ls.length ≤ 1000) : LitN (w.alloc (.cells (ls.map (Value.int .i64)).toArray 3)) w.heap.size ls := ⟨by simp, lit_nums w ls hl⟩
theorem LitN.chg {w w' : World} {b : Nat} {ls : List Int} {F : List Nat} (h : LitN w b ls) (hc : Chg F w w') (hb : b ∉ F) : LitN w' b ls :=
  ⟨Nat.lt_of_lt_of_le h.1 hc.size, h.2.mono (hc.kept (fun x hx => by rw [List.mem_singleton.1 hx]; exact h.1) (fun x hx => by rw [List.mem_singleton.1 hx]; exact hb)) fun _ _ _ _ _ h => h⟩
theorem LitN.alloc {w : World} {b : Nat} {ls : List Int} (h : LitN w b ls) (o : Obj) : LitN (w.alloc o) b ls := h.chg (F := []) (.of_below ((Below.refl _ _).alloc (Nat.le_refl _) _)) (by simp)
theorem Chg.alloc {F : List Nat} {w w' : World} (h : Chg F w w') (o : Obj) : Chg F w (w'.alloc o) := h.step ((Below.refl _ _).alloc (Nat.le_refl _) _)
end Go.Proofs.Ytilndhmegaccmaa

namespace Go.Proofs.Ytilndhmegaccmaa
open Go.RowKit

set_option maxRecDepth 100000 in
set_option maxHeartbeats 8000000 in
theorem l3Name_node (a : P) (ih : ∀ k ∈ a.ks, NameP k) (w : World) (p g : Nat) (n : Int) (cs : List Value) (G : List Nat) (hr : Rd w g p) (hp : p + 2 * nodesP a ≤ 900000) (hn0 : 0 ≤ n) (hn1 : n + 2 * (nodesP a : Int) ≤ 1000000) (hv : PR w a cs G) (hG : Under w.heap.size G) (hGg : ∀ b ∈ G, b ≠ g) (h5 : decide (n > 5) = false) (q5 : (a.op == 5) = false) (q3 : (a.op == 3) = false) (q1 : (a.op == 1) = false) :
    Calls Try.prog 98 #[.pointer (some ⟨g, 0, none⟩), .agg cs.toArray, .int .i64 n] w (DrewPN (2 * nodesP a) p (2 * nodesP a) g (n + 2 * (nodesP a : Int)) G w) := by
  obtain ⟨kv, rfl, ha⟩ := (PR_iff _ _ _).1 hv
  obtain ⟨A4, cap4, rfl, hc3, hc4⟩ := ha.form
  have IH := Lib.hid ih
  have hgl := hr.lt
  have hnp : 1 ≤ nodesP a := by unfold nodesP; omega
  have hka := kidSum_all a (Nat.le_refl a.ks.length)
  have hkl : a.ks.length ≤ 1000000 := by
    have h1 := P.sizes_eq a.ks
    have h2 := nodesP_ks a
    omega
  have hB0 : Below w.heap.size w ((w.alloc (.cells #[.int .i64 a.op, .int .i64 a.ct, .int .i64 a.n, .int .i64 a.m, .int .i64 a.va, .slice A4 a.ks.length cap4] 25)).alloc (.cells #[.int .i64 0, .int .i64 0, .int .i64 0, .int .i64 0, .int .i64 0, .slice none 0 0] 25)) := ((Below.refl _ _).alloc (Nat.le_refl _) _).alloc (by simp) _
  have KP : Hid (Blk ((w.alloc (.cells #[.int .i64 a.op, .int .i64 a.ct, .int .i64 a.n, .int .i64 a.m, .int .i64 a.va, .slice A4 a.ks.length cap4] 25)).alloc (.cells #[.int .i64 0, .int .i64 0, .int .i64 0, .int .i64 0, .int .i64 0, .slice none 0 0] 25)) w.heap.size 25 #[.int .i64 a.op, .int .i64 a.ct, .int .i64 a.n, .int .i64 a.m, .int .i64 a.va, .slice A4 a.ks.length cap4]) := (Blk.new w _ _).same (Below.heap_alloc _ _ _ (by simp))
  have KR : Hid (Blk ((w.alloc (.cells #[.int .i64 a.op, .int .i64 a.ct, .int .i64 a.n, .int .i64 a.m, .int .i64 a.va, .slice A4 a.ks.length cap4] 25)).alloc (.cells #[.int .i64 0, .int .i64 0, .int .i64 0, .int .i64 0, .int .i64 0, .slice none 0 0] 25)) (w.heap.size + 1) 25 #[.int .i64 0, .int .i64 0, .int .i64 0, .int .i64 0, .int .i64 0, .slice none 0 0]) := blk_second w _ 25 _
  have HR := Lib.hid (hr.below hB0)
  have hz2 : ((w.alloc (.cells #[.int .i64 a.op, .int .i64 a.ct, .int .i64 a.n, .int .i64 a.m, .int .i64 a.va, .slice A4 a.ks.length cap4] 25)).alloc (.cells #[.int .i64 0, .int .i64 0, .int .i64 0, .int .i64 0, .int .i64 0, .slice none 0 0] 25)).heap.size = w.heap.size + 2 := by simp
  have HC0 : Hid (Chg [g] w ((w.alloc (.cells #[.int .i64 a.op, .int .i64 a.ct, .int .i64 a.n, .int .i64 a.m, .int .i64 a.va, .slice A4 a.ks.length cap4] 25)).alloc (.cells #[.int .i64 0, .int .i64 0, .int .i64 0, .int .i64 0, .int .i64 0, .slice none 0 0] 25))) := .of_below hB0
  have HV0 := Lib.hid (hv.below hB0 hG)
  have HUN : Hid (∀ b ∈ G, b < ((w.alloc (.cells #[.int .i64 a.op, .int .i64 a.ct, .int .i64 a.n, .int .i64 a.m, .int .i64 a.va, .slice A4 a.ks.length cap4] 25)).alloc (.cells #[.int .i64 0, .int .i64 0, .int .i64 0, .int .i64 0, .int .i64 0, .slice none 0 0] 25)).heap.size ∧ (b ∈ G ∨ w.heap.size ≤ b) ∧ b ≠ w.heap.size + 1) := fun b hb => ⟨by have := hG b hb; omega, .inl hb, by have := hG b hb; omega⟩
  have HA := Lib.hid ha
  have HV := Lib.hid hv
  have HRw := Lib.hid hr
  have HG := Lib.hid hG
  have HGg := Lib.hid hGg
  have HG1 : Hid (∀ b, g < b → b ∉ [g]) := fun b hb h => by rw [List.mem_singleton] at h; omega
  clear ih hr hv ha hG hGg hB0
  go_enter Try.func98, Try.ntmps98
  go_wp2_with fail
  obtain ⟨w2, hw2⟩ : ∃ X, X = ((w.alloc (.cells #[.int .i64 a.op, .int .i64 a.ct, .int .i64 a.n, .int .i64 a.m, .int .i64 a.va, .slice A4 a.ks.length cap4] 25)).alloc (.cells #[.int .i64 0, .int .i64 0, .int .i64 0, .int .i64 0, .int .i64 0, .slice none 0 0] 25)) := ⟨_, rfl⟩
  rw [← hw2] at KP KR HR hz2 HC0 HV0 HUN ⊢
  clear hw2
  have z0 : w2.cell? ⟨w.heap.size, 0, none⟩ = some (.int .i64 a.op) := (KP.out.cell 0).trans (by simp)
  have z1 : w2.cell? ⟨w.heap.size, 1, none⟩ = some (.int .i64 a.ct) := (KP.out.cell 1).trans (by simp)
  have z2 : w2.cell? ⟨w.heap.size, 2, none⟩ = some (.int .i64 a.n) := (KP.out.cell 2).trans (by simp)
  have z3 : w2.cell? ⟨w.heap.size, 3, none⟩ = some (.int .i64 a.m) := (KP.out.cell 3).trans (by simp)
  have z4 : w2.cell? ⟨w.heap.size, 4, none⟩ = some (.int .i64 a.va) := (KP.out.cell 4).trans (by simp)
  have z5 : w2.cell? ⟨w.heap.size, 5, none⟩ = some (.slice A4 a.ks.length cap4) := (KP.out.cell 5).trans (by simp)
  have zlt := KP.out.lt
  obtain ⟨w3, hw3⟩ : ∃ X, X = w2 := ⟨_, rfl⟩
  have hz3 : w3.heap.size = w.heap.size + 2 := by rw [hw3]; exact hz2
  rw [← hw3] at KP KR HC0 HR ⊢
  have KP3 := Lib.hid KP.out
  have KR3 := Lib.hid KR.out
  have HC3 := Lib.hid HC0.out
  have HR3 := Lib.hid HR.out
  obtain ⟨p3, hp3⟩ : ∃ q, q = p := ⟨_, rfl⟩
  rw [← hp3] at HR3
  clear hw3 z0 z1 z2 z3 z4 z5 zlt KP KR HC0 HR HV0 HUN
  have KP3 := Lib.hid KP3.out
  have z0 : w3.cell? ⟨w.heap.size, 0, none⟩ = some (.int .i64 a.op) := (KP3.out.cell 0).trans (by simp)
  have z1 : w3.cell? ⟨w.heap.size, 1, none⟩ = some (.int .i64 a.ct) := (KP3.out.cell 1).trans (by simp)
  have z2 : w3.cell? ⟨w.heap.size, 2, none⟩ = some (.int .i64 a.n) := (KP3.out.cell 2).trans (by simp)
  have z3 : w3.cell? ⟨w.heap.size, 3, none⟩ = some (.int .i64 a.m) := (KP3.out.cell 3).trans (by simp)
  have z4 : w3.cell? ⟨w.heap.size, 4, none⟩ = some (.int .i64 a.va) := (KP3.out.cell 4).trans (by simp)
  have z5 : w3.cell? ⟨w.heap.size, 5, none⟩ = some (.slice A4 a.ks.length cap4) := (KP3.out.cell 5).trans (by simp)
  have zlt := KP3.out.lt
  go_wp2
  obtain ⟨w9, hw9⟩ : ∃ X, X = (w3.alloc (.cells #[.int .i64 a.op, .int .i64 a.ct, .int .i64 a.n, .int .i64 a.m, .int .i64 a.va, .slice none 0 0] 25)) := ⟨_, rfl⟩
  obtain ⟨D, hD⟩ : ∃ D, D = w.heap.size + 2 := ⟨_, rfl⟩
  have hDw : D = w3.heap.size := hD.trans hz3.symm
  have KN9 : Hid (Blk w9 D 25 #[.int .i64 a.op, .int .i64 a.ct, .int .i64 a.n, .int .i64 a.m, .int .i64 a.va, .slice none 0 0]) := by rw [hw9, hDw]; exact Blk.new w3 25 _
  have hk9 : ∀ b, b < D → w9.heap[b]? = w3.heap[b]? := fun b hb => by rw [hw9, Below.heap_alloc _ _ _ (by omega)]
  have hs9 : w9.heap.size = D + 1 := by rw [hw9, hDw]; simp
  have HC9 : Hid (Chg [g] w w9) := by rw [hw9]; exact HC3.out.alloc _
  have hD2 : w.heap.size + 2 ≤ D := by omega
  rw [← hD] 
  rw [← hw9]
  clear hDw
  clear hw9
  have KP9 := Lib.hid (KP3.out.same (hk9 _ (by omega)))
  have KR9 := Lib.hid (KR3.out.same (hk9 _ (by omega)))
  have HR9 := Lib.hid (HR3.out.keep (w' := w9) (fun b hb => hk9 b (by omega)))
  clear z0 z1 z2 z3 z4 z5 zlt
  clear hk9 KP3 KR3 HC3 HR3 hD
  obtain ⟨i0, hi, hz0, hz1, hz2'⟩ := info_parts info_PE
  have HI := Lib.hid hi
  have HZ0 := Lib.hid hz0
  have HZ1 := Lib.hid hz1
  have HZ2x := Lib.hid hz2'
  clear hi hz0 hz1 hz2'
  go_loopw [9, 10] (fun mv iv wr => ∃ q : Nat, ∃ m : Int, ∃ kv : Value, ∃ Fk : List Nat, ∃ vs : List P, ∃ pq : Nat, q ≤ a.ks.length ∧ iv = .int .i64 q ∧ mv = .int .i64 m ∧ Hid (vs.length = q) ∧ Hid (P.sizes vs ≤ 2 * kidSum a q) ∧ Hid (Blk wr D 25 #[.int .i64 a.op, .int .i64 a.ct, .int .i64 a.n, .int .i64 a.m, .int .i64 a.va, kv]) ∧ Hid (Own wr (D + 1) 25 6 PR vs kv Fk) ∧ Hid (∀ b ∈ Fk, b ∈ G ∨ D + 1 ≤ b) ∧ Hid (Chg [D, g] w9 wr) ∧ Hid (Chg [g] w wr) ∧ w9.heap.size ≤ wr.heap.size ∧ Hid (Rd wr g pq) ∧ pq ≤ p3 + 2 * kidSum a q ∧ 0 ≤ m ∧ m ≤ n + 2 * ((kidSum a q : Nat) : Int)) (fun _ iv _ => a.ks.length - (intOf iv).toNat)
  case atStart => exact ⟨0, n, _, [], [], p3, Nat.zero_le _, rfl, rfl, rfl, Nat.zero_le _, KN9, Own.nil _ _ _ _ _, (fun b hb => by cases hb), Chg.refl _ _, HC9, Nat.le_refl _, HR9, by omega, hn0, by omega⟩
  case round =>
    clear HC9 KN9 HR9
    obtain ⟨q, m, kv, Fk, vs, pq, hql, rfl, rfl, HVL, HVS, KD, HO, HFh, HC, HCw, hws9, HRq, hpq, hm0, hm1⟩ := hrel
    obtain ⟨kA, kcap, hkv, hkc1, hkc2⟩ := HO.out.form
    subst hkv
    have hDg : ∀ b, g < b → b ≠ D → b ∉ [D, g] := fun b h1 h2 h => by
      rcases List.mem_cons.1 h with h3 | h3
      · exact h2 h3
      · rw [List.mem_singleton] at h3; omega
    have KPr := Lib.hid (KP9.out.same (HC.out.block _ KP9.out.lt (hDg _ hgl (by omega))))
    have KRr := Lib.hid (KR9.out.same (HC.out.block _ KR9.out.lt (hDg _ (by omega) (by omega))))
    have HFk : Hid (∀ b ∈ Fk, b ≠ D ∧ b ≠ g) := fun b hb => by
      rcases HFh.out b hb with h | h
      · exact ⟨by have := HG.out b h; omega, HGg.out b h⟩
      · exact ⟨by omega, by omega⟩
    have HAr : Hid (Arr wr (PR wr) a.ks (.slice A4 a.ks.length cap4) G) := ArrP.mono HA.out (HCw.out.kept HG.out (fun b hb h => by rw [List.mem_singleton] at h; exact HGg.out b hb h))
    have HGr : Hid (Under wr.heap.size G) := HG.out.mono HCw.out.size
    have klt := KD.out.lt
    clear hDg
    have z0 : wr.cell? ⟨w.heap.size, 0, none⟩ = some (.int .i64 a.op) := (KPr.out.cell 0).trans (by simp)
    have z1 : wr.cell? ⟨w.heap.size, 1, none⟩ = some (.int .i64 a.ct) := (KPr.out.cell 1).trans (by simp)
    have z2 : wr.cell? ⟨w.heap.size, 2, none⟩ = some (.int .i64 a.n) := (KPr.out.cell 2).trans (by simp)
    have z3 : wr.cell? ⟨w.heap.size, 3, none⟩ = some (.int .i64 a.m) := (KPr.out.cell 3).trans (by simp)
    have z4 : wr.cell? ⟨w.heap.size, 4, none⟩ = some (.int .i64 a.va) := (KPr.out.cell 4).trans (by simp)
    have z5 : wr.cell? ⟨w.heap.size, 5, none⟩ = some (.slice A4 a.ks.length cap4) := (KPr.out.cell 5).trans (by simp)
    have zlt := KPr.out.lt
    by_cases hil : q < a.ks.length
    · have g1 : (0 : Int) ≤ (q : Int) := by omega
      have g2 : (q : Int) < (a.ks.length : Int) := by omega
      obtain ⟨b4, off4, rfl⟩ := HAr.out.ptr (by omega)
      obtain ⟨A7, cap7, G7, hb7, c0, c1, c2, c3, c4, c5, HV7, HG7, hsub, -, -⟩ := ArrP.at HAr.out HGr.out (Below.refl _ _) q hil
      have HSUB := Lib.hid hsub
      have hks := kidSum_succ a q hil
      have hkle := kidSum_le a (q + 1)
      have hvl := HVL.out
      have hvl3 : vs.length ≤ 1000000 := by omega
      clear hvl hsub
      have HME : Hid (a.ks[q] ∈ a.ks) := List.getElem_mem hil
      have HCALL := Lib.hid (IH.out a.ks[q] HME.out wr pq g m _ G7 HRq.out (by omega) hm0 (by omega) HV7.out HG7.out (fun b hb => HGg.out b (HSUB.out b hb)))
      go_wp2_with fail
      refine HCALL.out.mono ?_
      rintro e wA ⟨vA, csA, FA, qA, mA, rfl, hpA, hfA, hnA, hRA, hqA, hCA, hmA0, hmA1⟩
      obtain ⟨kvA, rfl, haA⟩ := (PR_iff _ _ _).1 hpA
      obtain ⟨A8, cap8, rfl, -, -⟩ := haA.form
      have hmx : vs.length + 1 ≤ maxLen := by unfold maxLen; omega
      have hby : (vs.length + 1) * 64 ≤ 140737488355328 := by omega
      have hb9 : Below wA.heap.size wA (wA.alloc (.cells #[.int .i64 vA.op, .int .i64 vA.ct, .int .i64 vA.n, .int .i64 vA.m, .int .i64 vA.va, .slice A8 vA.ks.length cap8] 25)) := (Below.refl _ _).alloc (Nat.le_refl _) _
      have HBu : Hid (Chg [g] wr (wA.alloc (.cells #[.int .i64 vA.op, .int .i64 vA.ct, .int .i64 vA.n, .int .i64 vA.m, .int .i64 vA.va, .slice A8 vA.ks.length cap8] 25))) := hCA.alloc _
      have HPb := Lib.hid (hpA.below hb9 (fun b hb => (hfA b hb).1))
      have hDg1 : D ∉ [g] := HG1.out _ (by omega)
      have KDA := hCA.block _ klt hDg1
      have zT : wA.cell? ⟨D, 5, none⟩ = some (.slice kA vs.length kcap) := ((KD.out.same KDA).cell 5).trans (by simp)
      have hkA := (KD.out.same KDA).lt
      have zfT : wA.frozen? ⟨D, 5, none⟩ = false := (KD.out.same KDA).frozen 5
      have HFA : Hid (∀ b ∈ FA, b < wA.heap.size ∧ (b ∈ G ∨ wr.heap.size ≤ b)) := fun b hb => ⟨(hfA b hb).1, by rcases (hfA b hb).2 with h | h; exact .inl (HSUB.out b h); exact .inr h⟩
      have HFA2 : Hid (∀ b ∈ FA, b ≠ D ∧ b ≠ g) := fun b hb => by
        rcases (HFA.out b hb).2 with h | h
        · exact ⟨by have := HG.out b h; omega, HGg.out b h⟩
        · exact ⟨by omega, by omega⟩
      have HFA3 : Hid (∀ x ∈ rowOf (.slice kA vs.length kcap), x ∉ FA) := fun x hx h => by
        have h1 := HO.out.row x hx
        rcases (HFA.out x h).2 with h2 | h2
        · have := HG.out x h2; omega
        · omega
      have HRA := Lib.hid (hRA.below hb9)
      have HNA := Lib.hid hnA
      have HOb : Hid (Own (wA.alloc (.cells #[.int .i64 vA.op, .int .i64 vA.ct, .int .i64 vA.n, .int .i64 vA.m, .int .i64 vA.va, .slice A8 vA.ks.length cap8] 25)) (D + 1) 25 6 PR vs (.slice kA vs.length kcap) Fk) := HO.out.chg2 PR_mono' HBu.out (fun b hb => by rw [List.mem_singleton] at hb; omega) (fun b hb h => by rw [List.mem_singleton] at h; exact (HFk.out b hb).2 h)
      have hsz : D + 1 ≤ (wA.alloc (.cells #[.int .i64 vA.op, .int .i64 vA.ct, .int .i64 vA.n, .int .i64 vA.m, .int .i64 vA.va, .slice A8 vA.ks.length cap8] 25)).heap.size := by have := HBu.out.size; omega
      clear z0 z1 z2 z3 z4 z5 zlt c0 c1 c2 c3 c4 c5 hpA hfA hnA hRA haA KDA HCALL hb7
      go_wp2_with (at_builtin; refine Halt.mk ?_)
      refine Halt.of (wpList_push1 (P := Try.prog) rfl _ _ 23 rfl i0 _ 64 Try.underlying23 HI.out HZ0.out HZ1.out HZ2x.out rfl (by decide) PR_len' PR_mono' (by rfl) HOb.out vA 25 [.int .i64 vA.op, .int .i64 vA.ct, .int .i64 vA.n, .int .i64 vA.m, .int .i64 vA.va, .slice A8 vA.ks.length cap8] FA _ (by rfl) (by simp) (by simp [Value.oneCell']) HPb.out (fun b hb => by rw [World.size_alloc]; have := (HFA.out b hb).1; omega) HFA3.out hmx hby hsz ?_)
      intro gz cp w7 hown7 hgr7 hat7
      have hrow := HOb.out.row
      have n7 : some D ≠ (Value.ownBlock (.slice kA vs.length kcap)) := fun e => by have := (hrow D (mem_rowOf.2 e.symm)).1; omega
      have hl7 : D < ((wA.alloc (.cells #[.int .i64 vA.op, .int .i64 vA.ct, .int .i64 vA.n, .int .i64 vA.m, .int .i64 vA.va, .slice A8 vA.ks.length cap8] 25)).alloc (.cells [.int .i64 vA.op, .int .i64 vA.ct, .int .i64 vA.n, .int .i64 vA.m, .int .i64 vA.va, .slice A8 vA.ks.length cap8].toArray 25)).heap.size := by rw [World.size_alloc, World.size_alloc]; omega
      have z71 : w7.cell? ⟨D, 5, none⟩ = some (.slice kA vs.length kcap) := (World.grownBy.cell_far hgr7 ⟨D, 5, none⟩ hl7 n7).trans ((World.cell?_alloc_lt _ _ _ (by rw [World.size_alloc]; show D < _; omega)).trans ((World.cell?_alloc_lt _ _ _ (show D < wA.heap.size from hkA)).trans zT))
      have zf71 : w7.frozen? ⟨D, 5, none⟩ = false := (World.grownBy.frozen_far hgr7 ⟨D, 5, none⟩ hl7 n7).trans (Eq.trans (World.frozen?_of_block (Below.heap_alloc _ _ _ (by rw [World.size_alloc]; show D < _; omega))) (Eq.trans (World.frozen?_of_block (Below.heap_alloc _ _ _ (show D < wA.heap.size from hkA))) zfT))
      obtain ⟨r1, r2, r3, r4, r5, r6, r7⟩ := kid_round4 (w := w) 5 PR_mono' hs9 (Nat.lt_succ_self D) hgl (by omega) KD.out HO.out HFk.out HC.out HCw.out HBu.out HFA2.out hown7 hgr7 HRA.out
      have R1 := Lib.hid r1
      have R2 := Lib.hid r2
      have R4 := Lib.hid r4
      have R5 := Lib.hid r5
      have R7 := Lib.hid r7
      have R3 : Hid (∀ b ∈ Fk ++ FA, b ∈ G ∨ D + 1 ≤ b) := fun b hb => by
        rcases List.mem_append.1 hb with h | h
        · exact HFh.out b h
        · rcases (HFA.out b h).2 with h2 | h2
          · exact .inl h2
          · exact .inr (by omega)
      have HV2 : Hid ((vs ++ [vA]).length = q + 1) := by have := HVL.out; unfold Hid; rw [List.length_append]; simp only [List.length_cons, List.length_nil]; omega
      have HS2 : Hid (P.sizes (vs ++ [vA]) ≤ 2 * kidSum a (q + 1)) := by unfold Hid; rw [hks]; exact psizes_snoc2 vs vA _ _ HVS.out HNA.out
      have HKS := Lib.hid hks
      have h7D : D < w7.heap.size := Nat.lt_of_lt_of_le hl7 hgr7.size
      clear r1 r2 r3 r4 r5 r7 hown7 hgr7 hat7 hrow n7 hl7 zT zfT hks
      go_wp2
      go_roundw
      case rel => exact ⟨q + 1, mA, _, _, vs ++ [vA], qA, hil, by go_num, rfl, HV2, HS2, R1, (by rw [show (vs ++ [vA]).length = vs.length + 1 from by rw [List.length_append]; rfl] at *; exact R2), R3, R4, R5, r6, R7, by have := HKS.out; omega, hmA0, by have := HKS.out; push_cast [this]; omega⟩
      case measure => (simp [intOf] <;> omega)
    · obtain ⟨FF, hf1, hf3⟩ := kid_done4 (D := D) (g := g) HO.out HFk.out (Nat.lt_succ_self D) (by omega)
      have HF1 := Lib.hid hf1
      have HF3 : Hid (∀ b ∈ FF, b < wr.heap.size ∧ (b ∈ G ∨ w.heap.size ≤ b) ∧ b ≠ w.heap.size + 1) := fun b hb => by
        have h := hf3 b hb
        rcases h.2.2.2 with h2 | h2
        · rcases HFh.out b h2 with h3 | h3
          · exact ⟨h.2.2.1, .inl h3, by have := HG.out b h3; omega⟩
          · exact ⟨h.2.2.1, .inr (by omega), by omega⟩
        · exact ⟨h.2.2.1, .inr (by omega), by omega⟩
      have HFg : Hid (∀ b ∈ FF, b ∉ [g]) := fun b hb h => by rw [List.mem_singleton] at h; exact (hf3 b hb).2.1 h
      have hq : q = a.ks.length := by omega
      have HSZ : Hid (nodesP ⟨a.op, a.ct, a.n, a.m, a.va, vs⟩ ≤ 2 * nodesP a - 1) := by have h1 := HVS.out; rw [hq] at h1; unfold Hid; rw [nodesP_ks]; simp only; omega
      have HRP : Hid (PR wr ⟨a.op, a.ct, a.n, a.m, a.va, vs⟩ [.int .i64 a.op, .int .i64 a.ct, .int .i64 a.n, .int .i64 a.m, .int .i64 a.va, .slice kA vs.length kcap] FF) := (PR_iff _ _ _).2 ⟨_, rfl, HF1.out⟩
      rw [hq] at hpq hm1
      clear hf1 hf3 hq
      by_cases hm5 : m ≤ 5
      · have d1 : decide (m ≤ 5) = true := decide_eq_true hm5
        clear hm5
        go_wp2_with fail
        refine (pick_any 6 pq g wr HRq.out (by omega) (by omega) (by omega)).mono ?_
        rintro e w10 ⟨r10, rfl, -, hR10, hC10⟩
        have KDX := Lib.hid (KD.out.same (hC10.block _ klt (HG1.out _ (by omega))))
        have KRX := Lib.hid (KRr.out.same (hC10.block _ KRr.out.lt (HG1.out _ (by omega))))
        have HCX := Lib.hid (HCw.out.trans hC10)
        have HRX := Lib.hid hR10
        have hzX := hC10.size
        have HRPX := Lib.hid (PR.mono _ _ _ (hC10.kept (fun b hb => (HF3.out b hb).1) HFg.out) HRP.out)
        have HFX : Hid (∀ b ∈ FF, b < w10.heap.size ∧ (b ∈ G ∨ w.heap.size ≤ b) ∧ b ≠ w.heap.size + 1) := fun b hb => ⟨Nat.lt_of_lt_of_le (HF3.out b hb).1 hzX, (HF3.out b hb).2⟩
        clear z0 z1 z2 z3 z4 z5 zlt hR10 hC10
        cases q10 : ((r10 : Int) == 0) with
        | true =>
          have hmw : IntKind.i64.wrap (m + 1) = m + 1 := IntWalk.i64_in _ (by omega)
          have e0 := (KDX.out.cell 0).trans (show _ = some (.int .i64 a.op) from by simp)
          have e1 := (KDX.out.cell 1).trans (show _ = some (.int .i64 a.ct) from by simp)
          have e2 := (KDX.out.cell 2).trans (show _ = some (.int .i64 a.n) from by simp)
          have e3 := (KDX.out.cell 3).trans (show _ = some (.int .i64 a.m) from by simp)
          have e4 := (KDX.out.cell 4).trans (show _ = some (.int .i64 a.va) from by simp)
          have e5 := (KDX.out.cell 5).trans (show _ = some (.slice kA vs.length kcap) from by simp)
          have elt := KDX.out.lt
          have rc0 := (KRX.out.cell 0).trans (show _ = some (.int .i64 0) from by simp)
          have rf0 := KRX.out.frozen 0
          have rc1 := (KRX.out.cell 1).trans (show _ = some (.int .i64 0) from by simp)
          have rf1 := KRX.out.frozen 1
          have rc2 := (KRX.out.cell 2).trans (show _ = some (.int .i64 0) from by simp)
          have rf2 := KRX.out.frozen 2
          have rc3 := (KRX.out.cell 3).trans (show _ = some (.int .i64 0) from by simp)
          have rf3 := KRX.out.frozen 3
          have rc4 := (KRX.out.cell 4).trans (show _ = some (.int .i64 0) from by simp)
          have rf4 := KRX.out.frozen 4
          have rc5 := (KRX.out.cell 5).trans (show _ = some (.slice none 0 0) from by simp)
          have rf5 := KRX.out.frozen 5
          have rlt := KRX.out.lt
          go_wp2
          clear rc0 rf0 rc1 rf1 rc2 rf2 rc3 rf3 rc4 rf4 rc5 rf5 rlt
          obtain ⟨w6, hw6⟩ : ∃ X, X = ((((((w10.setCell ⟨w.heap.size + 1, 0, none⟩ (.int .i64 6)).setCell ⟨w.heap.size + 1, 1, none⟩ (.int .i64 0)).setCell ⟨w.heap.size + 1, 2, none⟩ (.int .i64 0)).setCell ⟨w.heap.size + 1, 3, none⟩ (.int .i64 0)).setCell ⟨w.heap.size + 1, 4, none⟩ (.int .i64 m)).setCell ⟨w.heap.size + 1, 5, none⟩ (.slice (some ⟨w10.heap.size, 0, none⟩) 1 1)) := ⟨_, rfl⟩
          have hs6 : w6.heap.size = w10.heap.size := by rw [hw6, size_six]
          have K6 : Hid (Blk w6 (w.heap.size + 1) 25 #[.int .i64 6, .int .i64 0, .int .i64 0, .int .i64 0, .int .i64 m, .slice (some ⟨w10.heap.size, 0, none⟩) 1 1]) := by rw [hw6]; exact KRX.out.six _ _ _ _ _ _
          have hkp : Kept FF w10 w6 := by rw [hw6]; exact kept_six (w := w10) (H := w.heap.size + 1) (fun b hb => (HFX.out b hb).2.2) _ _ _ _ _ _
          have HP6 := Lib.hid (PR.mono _ _ _ hkp HRPX.out)
          have HR6 : Hid (Rd w6 g (pq + 1)) := by rw [hw6]; exact rd_six HRX.out (by omega) _ _ _ _ _ _
          have HC6 : Hid (Chg [g] w w6) := by rw [hw6]; exact chg_six HCX.out (by omega) _ _ _ _ _ _
          rw [← hw6]
          clear hw6 hkp
          have hbW : Below w6.heap.size w6 (w6.alloc (.cells #[.int .i64 a.op, .int .i64 a.ct, .int .i64 a.n, .int .i64 a.m, .int .i64 a.va, .slice kA vs.length kcap] 25)) := (Below.refl _ _).alloc (Nat.le_refl _) _
          have KAW : Hid (Blk (w6.alloc (.cells #[.int .i64 a.op, .int .i64 a.ct, .int .i64 a.n, .int .i64 a.m, .int .i64 a.va, .slice kA vs.length kcap] 25)) w10.heap.size 25 #[.int .i64 a.op, .int .i64 a.ct, .int .i64 a.n, .int .i64 a.m, .int .i64 a.va, .slice kA vs.length kcap]) := by rw [← hs6]; exact Blk.new _ _ _
          have KRW := Lib.hid (K6.out.same (hbW.block _ K6.out.lt))
          have HCW := Lib.hid (HC6.out.step hbW)
          have HRW := Lib.hid (HR6.out.below hbW)
          have HPW := Lib.hid (HP6.out.below hbW (fun b hb => by rw [hs6]; exact (HFX.out b hb).1))
          have hsW : (w6.alloc (.cells #[.int .i64 a.op, .int .i64 a.ct, .int .i64 a.n, .int .i64 a.m, .int .i64 a.va, .slice kA vs.length kcap] 25)).heap.size = w10.heap.size + 1 := by rw [World.size_alloc, hs6]
          generalize (w6.alloc (.cells #[.int .i64 a.op, .int .i64 a.ct, .int .i64 a.n, .int .i64 a.m, .int .i64 a.va, .slice kA vs.length kcap] 25)) = wW at *
          have HFW : Hid (∀ b ∈ w10.heap.size :: FF, b < wW.heap.size ∧ (b ∈ G ∨ w.heap.size ≤ b)) := fun b hb => by
            rcases List.mem_cons.1 hb with h | h
            · exact ⟨by omega, .inr (by omega)⟩
            · have := HFX.out b h; exact ⟨by omega, this.2.1⟩
          have HAW : Hid (PR wW ⟨6, 0, 0, 0, m, [⟨a.op, a.ct, a.n, a.m, a.va, vs⟩]⟩ [.int .i64 6, .int .i64 0, .int .i64 0, .int .i64 0, .int .i64 m, .slice (some ⟨w10.heap.size, 0, none⟩) 1 1] (w10.heap.size :: FF)) := (PR_iff _ _ _).2 ⟨_, rfl, arr_pat1 KAW.out HPW.out⟩
          have HSW : Hid (nodesP ⟨6, 0, 0, 0, m, [⟨a.op, a.ct, a.n, a.m, a.va, vs⟩]⟩ ≤ 2 * nodesP a) := by have h1 := HSZ.out; unfold Hid; rw [nodesP_ks]; simp only [P.sizes]; unfold nodesP at h1 ⊢; omega
          refine bodyPost_ret (results_cell_tmp rfl _ _ (w.heap.size + 1) 25 #[.int .i64 6, .int .i64 0, .int .i64 0, .int .i64 0, .int .i64 m, .slice (some ⟨w10.heap.size, 0, none⟩) 1 1] (0, 0) _ rfl KRW.out Try.underlying25 rfl rfl) rfl ?_
          exact ⟨⟨6, 0, 0, 0, m, [⟨a.op, a.ct, a.n, a.m, a.va, vs⟩]⟩, [.int .i64 6, .int .i64 0, .int .i64 0, .int .i64 0, .int .i64 m, .slice (some ⟨w10.heap.size, 0, none⟩) 1 1], (w10.heap.size :: FF), pq + 1, (m + 1), rfl, HAW.out, HFW.out, HSW.out, HRW.out, by omega, HCW.out, by omega, by omega⟩
        | false =>
          have e0 := (KDX.out.cell 0).trans (show _ = some (.int .i64 a.op) from by simp)
          have e1 := (KDX.out.cell 1).trans (show _ = some (.int .i64 a.ct) from by simp)
          have e2 := (KDX.out.cell 2).trans (show _ = some (.int .i64 a.n) from by simp)
          have e3 := (KDX.out.cell 3).trans (show _ = some (.int .i64 a.m) from by simp)
          have e4 := (KDX.out.cell 4).trans (show _ = some (.int .i64 a.va) from by simp)
          have e5 := (KDX.out.cell 5).trans (show _ = some (.slice kA vs.length kcap) from by simp)
          have elt := KDX.out.lt
          have rc0 := (KRX.out.cell 0).trans (show _ = some (.int .i64 0) from by simp)
          have rf0 := KRX.out.frozen 0
          have rc1 := (KRX.out.cell 1).trans (show _ = some (.int .i64 0) from by simp)
          have rf1 := KRX.out.frozen 1
          have rc2 := (KRX.out.cell 2).trans (show _ = some (.int .i64 0) from by simp)
          have rf2 := KRX.out.frozen 2
          have rc3 := (KRX.out.cell 3).trans (show _ = some (.int .i64 0) from by simp)
          have rf3 := KRX.out.frozen 3
          have rc4 := (KRX.out.cell 4).trans (show _ = some (.int .i64 0) from by simp)
          have rf4 := KRX.out.frozen 4
          have rc5 := (KRX.out.cell 5).trans (show _ = some (.slice none 0 0) from by simp)
          have rf5 := KRX.out.frozen 5
          have rlt := KRX.out.lt
          go_wp2
          clear rc0 rf0 rc1 rf1 rc2 rf2 rc3 rf3 rc4 rf4 rc5 rf5 rlt
          refine bodyPost_ret (results_cell_tmp rfl _ _ (w.heap.size + 1) 25 #[.int .i64 a.op, .int .i64 a.ct, .int .i64 a.n, .int .i64 a.m, .int .i64 a.va, .slice kA vs.length kcap] (0, 0) _ rfl (KRX.out.six _ _ _ _ _ _) Try.underlying25 rfl rfl) rfl ?_
          have hkp : Kept FF w10 _ := kept_six (w := w10) (H := w.heap.size + 1) (fun b hb => (HFX.out b hb).2.2) (.int .i64 a.op) (.int .i64 a.ct) (.int .i64 a.n) (.int .i64 a.m) (.int .i64 a.va) (.slice kA vs.length kcap)
          exact ⟨⟨a.op, a.ct, a.n, a.m, a.va, vs⟩, [.int .i64 a.op, .int .i64 a.ct, .int .i64 a.n, .int .i64 a.m, .int .i64 a.va, .slice kA vs.length kcap], FF, pq + 1, m, rfl, PR.mono _ _ _ hkp HRPX.out, fun b hb => ⟨by rw [size_six]; exact (HFX.out b hb).1, (HFX.out b hb).2.1⟩, by have := HSZ.out; omega, rd_six HRX.out (by omega) _ _ _ _ _ _, by omega, chg_six HCX.out (by omega) _ _ _ _ _ _, hm0, by omega⟩
      · have d1 : decide (m ≤ 5) = false := decide_eq_false hm5
        clear hm5 z0 z1 z2 z3 z4 z5
        have z5 : wr.cell? ⟨w.heap.size, 5, none⟩ = some (.slice A4 a.ks.length cap4) := (KPr.out.cell 5).trans (by simp)
        have e0 := (KD.out.cell 0).trans (show _ = some (.int .i64 a.op) from by simp)
        have e1 := (KD.out.cell 1).trans (show _ = some (.int .i64 a.ct) from by simp)
        have e2 := (KD.out.cell 2).trans (show _ = some (.int .i64 a.n) from by simp)
        have e3 := (KD.out.cell 3).trans (show _ = some (.int .i64 a.m) from by simp)
        have e4 := (KD.out.cell 4).trans (show _ = some (.int .i64 a.va) from by simp)
        have e5 := (KD.out.cell 5).trans (show _ = some (.slice kA vs.length kcap) from by simp)
        have elt := KD.out.lt
        have rc0 := (KRr.out.cell 0).trans (show _ = some (.int .i64 0) from by simp)
        have rf0 := KRr.out.frozen 0
        have rc1 := (KRr.out.cell 1).trans (show _ = some (.int .i64 0) from by simp)
        have rf1 := KRr.out.frozen 1
        have rc2 := (KRr.out.cell 2).trans (show _ = some (.int .i64 0) from by simp)
        have rf2 := KRr.out.frozen 2
        have rc3 := (KRr.out.cell 3).trans (show _ = some (.int .i64 0) from by simp)
        have rf3 := KRr.out.frozen 3
        have rc4 := (KRr.out.cell 4).trans (show _ = some (.int .i64 0) from by simp)
        have rf4 := KRr.out.frozen 4
        have rc5 := (KRr.out.cell 5).trans (show _ = some (.slice none 0 0) from by simp)
        have rf5 := KRr.out.frozen 5
        have rlt := KRr.out.lt
        go_wp2
        clear rc0 rf0 rc1 rf1 rc2 rf2 rc3 rf3 rc4 rf4 rc5 rf5 rlt
        refine bodyPost_ret (results_cell_tmp rfl _ _ (w.heap.size + 1) 25 #[.int .i64 a.op, .int .i64 a.ct, .int .i64 a.n, .int .i64 a.m, .int .i64 a.va, .slice kA vs.length kcap] (0, 0) _ rfl (KRr.out.six _ _ _ _ _ _) Try.underlying25 rfl rfl) rfl ?_
        have hkp : Kept FF wr _ := kept_six (w := wr) (H := w.heap.size + 1) (fun b hb => (HF3.out b hb).2.2) (.int .i64 a.op) (.int .i64 a.ct) (.int .i64 a.n) (.int .i64 a.m) (.int .i64 a.va) (.slice kA vs.length kcap)
        exact ⟨⟨a.op, a.ct, a.n, a.m, a.va, vs⟩, [.int .i64 a.op, .int .i64 a.ct, .int .i64 a.n, .int .i64 a.m, .int .i64 a.va, .slice kA vs.length kcap], FF, pq, m, rfl, PR.mono _ _ _ hkp HRP.out, fun b hb => ⟨by rw [size_six]; exact (HF3.out b hb).1, (HF3.out b hb).2.1⟩, by have := HSZ.out; omega, rd_six HRq.out (by omega) _ _ _ _ _ _, by omega, chg_six HCw.out (by omega) _ _ _ _ _ _, hm0, by omega⟩
end Go.Proofs.Ytilndhmegaccmaa

namespace Go.Proofs.Ytilndhmegaccmaa
open Go.RowKit

set_option maxRecDepth 100000 in
set_option maxHeartbeats 8000000 in
theorem l3Name_any (a : P) (ih : ∀ k ∈ a.ks, NameP k) (w : World) (p g : Nat) (n : Int) (cs : List Value) (G : List Nat) (hr : Rd w g p) (hp : p + 2 * nodesP a ≤ 900000) (hn0 : 0 ≤ n) (hn1 : n + 2 * (nodesP a : Int) ≤ 1000000) (hv : PR w a cs G) (hG : Under w.heap.size G) (hGg : ∀ b ∈ G, b ≠ g) (h5 : decide (n > 5) = false) (q5 : (a.op == 5) = false) (q3 : (a.op == 3) = false) (q1 : (a.op == 1) = true) :
    Calls Try.prog 98 #[.pointer (some ⟨g, 0, none⟩), .agg cs.toArray, .int .i64 n] w (DrewPN (2 * nodesP a) p (2 * nodesP a) g (n + 2 * (nodesP a : Int)) G w) := by
  obtain ⟨kv, rfl, ha⟩ := (PR_iff _ _ _).1 hv
  obtain ⟨A4, cap4, rfl, hc3, hc4⟩ := ha.form
  have IH := Lib.hid ih
  have hgl := hr.lt
  have hnp : 1 ≤ nodesP a := by unfold nodesP; omega
  have hka := kidSum_all a (Nat.le_refl a.ks.length)
  have hkl : a.ks.length ≤ 1000000 := by
    have h1 := P.sizes_eq a.ks
    have h2 := nodesP_ks a
    omega
  have hB0 : Below w.heap.size w ((w.alloc (.cells #[.int .i64 a.op, .int .i64 a.ct, .int .i64 a.n, .int .i64 a.m, .int .i64 a.va, .slice A4 a.ks.length cap4] 25)).alloc (.cells #[.int .i64 0, .int .i64 0, .int .i64 0, .int .i64 0, .int .i64 0, .slice none 0 0] 25)) := ((Below.refl _ _).alloc (Nat.le_refl _) _).alloc (by simp) _
  have KP : Hid (Blk ((w.alloc (.cells #[.int .i64 a.op, .int .i64 a.ct, .int .i64 a.n, .int .i64 a.m, .int .i64 a.va, .slice A4 a.ks.length cap4] 25)).alloc (.cells #[.int .i64 0, .int .i64 0, .int .i64 0, .int .i64 0, .int .i64 0, .slice none 0 0] 25)) w.heap.size 25 #[.int .i64 a.op, .int .i64 a.ct, .int .i64 a.n, .int .i64 a.m, .int .i64 a.va, .slice A4 a.ks.length cap4]) := (Blk.new w _ _).same (Below.heap_alloc _ _ _ (by simp))
  have KR : Hid (Blk ((w.alloc (.cells #[.int .i64 a.op, .int .i64 a.ct, .int .i64 a.n, .int .i64 a.m, .int .i64 a.va, .slice A4 a.ks.length cap4] 25)).alloc (.cells #[.int .i64 0, .int .i64 0, .int .i64 0, .int .i64 0, .int .i64 0, .slice none 0 0] 25)) (w.heap.size + 1) 25 #[.int .i64 0, .int .i64 0, .int .i64 0, .int .i64 0, .int .i64 0, .slice none 0 0]) := blk_second w _ 25 _
  have HR := Lib.hid (hr.below hB0)
  have hz2 : ((w.alloc (.cells #[.int .i64 a.op, .int .i64 a.ct, .int .i64 a.n, .int .i64 a.m, .int .i64 a.va, .slice A4 a.ks.length cap4] 25)).alloc (.cells #[.int .i64 0, .int .i64 0, .int .i64 0, .int .i64 0, .int .i64 0, .slice none 0 0] 25)).heap.size = w.heap.size + 2 := by simp
  have HC0 : Hid (Chg [g] w ((w.alloc (.cells #[.int .i64 a.op, .int .i64 a.ct, .int .i64 a.n, .int .i64 a.m, .int .i64 a.va, .slice A4 a.ks.length cap4] 25)).alloc (.cells #[.int .i64 0, .int .i64 0, .int .i64 0, .int .i64 0, .int .i64 0, .slice none 0 0] 25))) := .of_below hB0
  have HV0 := Lib.hid (hv.below hB0 hG)
  have HUN : Hid (∀ b ∈ G, b < ((w.alloc (.cells #[.int .i64 a.op, .int .i64 a.ct, .int .i64 a.n, .int .i64 a.m, .int .i64 a.va, .slice A4 a.ks.length cap4] 25)).alloc (.cells #[.int .i64 0, .int .i64 0, .int .i64 0, .int .i64 0, .int .i64 0, .slice none 0 0] 25)).heap.size ∧ (b ∈ G ∨ w.heap.size ≤ b) ∧ b ≠ w.heap.size + 1) := fun b hb => ⟨by have := hG b hb; omega, .inl hb, by have := hG b hb; omega⟩
  have HA := Lib.hid ha
  have HV := Lib.hid hv
  have HRw := Lib.hid hr
  have HG := Lib.hid hG
  have HGg := Lib.hid hGg
  have HG1 : Hid (∀ b, g < b → b ∉ [g]) := fun b hb h => by rw [List.mem_singleton] at h; omega
  clear ih hr hv ha hG hGg hB0
  go_enter Try.func98, Try.ntmps98
  go_wp2_with fail
  obtain ⟨w2, hw2⟩ : ∃ X, X = ((w.alloc (.cells #[.int .i64 a.op, .int .i64 a.ct, .int .i64 a.n, .int .i64 a.m, .int .i64 a.va, .slice A4 a.ks.length cap4] 25)).alloc (.cells #[.int .i64 0, .int .i64 0, .int .i64 0, .int .i64 0, .int .i64 0, .slice none 0 0] 25)) := ⟨_, rfl⟩
  rw [← hw2] at KP KR HR hz2 HC0 HV0 HUN ⊢
  clear hw2
  have z0 : w2.cell? ⟨w.heap.size, 0, none⟩ = some (.int .i64 a.op) := (KP.out.cell 0).trans (by simp)
  have z1 : w2.cell? ⟨w.heap.size, 1, none⟩ = some (.int .i64 a.ct) := (KP.out.cell 1).trans (by simp)
  have z2 : w2.cell? ⟨w.heap.size, 2, none⟩ = some (.int .i64 a.n) := (KP.out.cell 2).trans (by simp)
  have z3 : w2.cell? ⟨w.heap.size, 3, none⟩ = some (.int .i64 a.m) := (KP.out.cell 3).trans (by simp)
  have z4 : w2.cell? ⟨w.heap.size, 4, none⟩ = some (.int .i64 a.va) := (KP.out.cell 4).trans (by simp)
  have z5 : w2.cell? ⟨w.heap.size, 5, none⟩ = some (.slice A4 a.ks.length cap4) := (KP.out.cell 5).trans (by simp)
  have zlt := KP.out.lt
  refine (pick_any 2 p g w2 HR.out (by omega) (by omega) (by omega)).mono ?_
  rintro e w3 ⟨r, rfl, -, hR3, hC3⟩
  have KP3 := Lib.hid (KP.out.same (hC3.block _ KP.out.lt (HG1.out _ hgl)))
  have KR3 := Lib.hid (KR.out.same (hC3.block _ KR.out.lt (HG1.out _ (by omega))))
  have HC3 := Lib.hid (HC0.out.trans hC3)
  have HR3 := Lib.hid hR3
  have hz3 := hC3.size
  clear z0 z1 z2 z3 z4 z5 zlt hR3 hC3 KP KR HC0 HR HV0 HUN
  obtain ⟨p3, hp3⟩ : ∃ q, q = p + 1 := ⟨_, rfl⟩
  rw [← hp3] at HR3
  cases qr : ((r : Int) == 0) with
  | true =>
    have hnw : IntKind.i64.wrap (n + 1) = n + 1 := IntWalk.i64_in _ (by omega)
    have HE : Hid (∀ b ∈ ([] : List Nat), b < w3.heap.size ∧ (b ∈ G ∨ w.heap.size ≤ b) ∧ b ≠ w.heap.size + 1) := fun b hb => by cases hb
    have rc0 := (KR3.out.cell 0).trans (show _ = some (.int .i64 0) from by simp)
    have rf0 := KR3.out.frozen 0
    have rc1 := (KR3.out.cell 1).trans (show _ = some (.int .i64 0) from by simp)
    have rf1 := KR3.out.frozen 1
    have rc2 := (KR3.out.cell 2).trans (show _ = some (.int .i64 0) from by simp)
    have rf2 := KR3.out.frozen 2
    have rc3 := (KR3.out.cell 3).trans (show _ = some (.int .i64 0) from by simp)
    have rf3 := KR3.out.frozen 3
    have rc4 := (KR3.out.cell 4).trans (show _ = some (.int .i64 0) from by simp)
    have rf4 := KR3.out.frozen 4
    have rc5 := (KR3.out.cell 5).trans (show _ = some (.slice none 0 0) from by simp)
    have rf5 := KR3.out.frozen 5
    have rlt := KR3.out.lt
    go_wp2
    clear rc0 rf0 rc1 rf1 rc2 rf2 rc3 rf3 rc4 rf4 rc5 rf5 rlt
    refine bodyPost_ret (results_cell_tmp rfl _ _ (w.heap.size + 1) 25 #[.int .i64 2, .int .i64 0, .int .i64 0, .int .i64 0, .int .i64 n, .slice none 0 0] (0, 0) _ rfl (KR3.out.six _ _ _ _ _ _) Try.underlying25 rfl rfl) rfl ?_
    have hkp : Kept ([] : List Nat) w3 _ := kept_six (w := w3) (H := w.heap.size + 1) (fun b hb => (HE.out b hb).2.2) (.int .i64 2) (.int .i64 0) (.int .i64 0) (.int .i64 0) (.int .i64 n) (.slice none 0 0)
    exact ⟨⟨2, 0, 0, 0, n, []⟩, [.int .i64 2, .int .i64 0, .int .i64 0, .int .i64 0, .int .i64 n, .slice none 0 0], ([] : List Nat), p3, (n + 1), rfl, PR.mono _ _ _ hkp ((PR_iff _ _ _).2 ⟨_, rfl, Arr.nil⟩), fun b hb => ⟨by rw [size_six]; exact (HE.out b hb).1, (HE.out b hb).2.1⟩, by simp [nodesP, P.size, P.sizes]; omega, rd_six HR3.out (by omega) _ _ _ _ _ _, by omega, chg_six HC3.out (by omega) _ _ _ _ _ _, by omega, by omega⟩
  | false =>
    have KP3 := Lib.hid KP3.out
    have z0 : w3.cell? ⟨w.heap.size, 0, none⟩ = some (.int .i64 a.op) := (KP3.out.cell 0).trans (by simp)
    have z1 : w3.cell? ⟨w.heap.size, 1, none⟩ = some (.int .i64 a.ct) := (KP3.out.cell 1).trans (by simp)
    have z2 : w3.cell? ⟨w.heap.size, 2, none⟩ = some (.int .i64 a.n) := (KP3.out.cell 2).trans (by simp)
    have z3 : w3.cell? ⟨w.heap.size, 3, none⟩ = some (.int .i64 a.m) := (KP3.out.cell 3).trans (by simp)
    have z4 : w3.cell? ⟨w.heap.size, 4, none⟩ = some (.int .i64 a.va) := (KP3.out.cell 4).trans (by simp)
    have z5 : w3.cell? ⟨w.heap.size, 5, none⟩ = some (.slice A4 a.ks.length cap4) := (KP3.out.cell 5).trans (by simp)
    have zlt := KP3.out.lt
    go_wp2
    clear qr
    obtain ⟨w9, hw9⟩ : ∃ X, X = (w3.alloc (.cells #[.int .i64 a.op, .int .i64 a.ct, .int .i64 a.n, .int .i64 a.m, .int .i64 a.va, .slice none 0 0] 25)) := ⟨_, rfl⟩
    obtain ⟨D, hD⟩ : ∃ D, D = w3.heap.size := ⟨_, rfl⟩
    have hDw : D = w3.heap.size := hD
    have KN9 : Hid (Blk w9 D 25 #[.int .i64 a.op, .int .i64 a.ct, .int .i64 a.n, .int .i64 a.m, .int .i64 a.va, .slice none 0 0]) := by rw [hw9, hDw]; exact Blk.new w3 25 _
    have hk9 : ∀ b, b < D → w9.heap[b]? = w3.heap[b]? := fun b hb => by rw [hw9, Below.heap_alloc _ _ _ (by omega)]
    have hs9 : w9.heap.size = D + 1 := by rw [hw9, hDw]; simp
    have HC9 : Hid (Chg [g] w w9) := by rw [hw9]; exact HC3.out.alloc _
    have hD2 : w.heap.size + 2 ≤ D := by omega
    rw [← hD] 
    rw [← hw9]
    clear hDw
    clear hw9
    have KP9 := Lib.hid (KP3.out.same (hk9 _ (by omega)))
    have KR9 := Lib.hid (KR3.out.same (hk9 _ (by omega)))
    have HR9 := Lib.hid (HR3.out.keep (w' := w9) (fun b hb => hk9 b (by omega)))
    clear z0 z1 z2 z3 z4 z5 zlt
    clear hk9 KP3 KR3 HC3 HR3 hD
    obtain ⟨i0, hi, hz0, hz1, hz2'⟩ := info_parts info_PE
    have HI := Lib.hid hi
    have HZ0 := Lib.hid hz0
    have HZ1 := Lib.hid hz1
    have HZ2x := Lib.hid hz2'
    clear hi hz0 hz1 hz2'
    go_loopw [9, 10] (fun mv iv wr => ∃ q : Nat, ∃ m : Int, ∃ kv : Value, ∃ Fk : List Nat, ∃ vs : List P, ∃ pq : Nat, q ≤ a.ks.length ∧ iv = .int .i64 q ∧ mv = .int .i64 m ∧ Hid (vs.length = q) ∧ Hid (P.sizes vs ≤ 2 * kidSum a q) ∧ Hid (Blk wr D 25 #[.int .i64 a.op, .int .i64 a.ct, .int .i64 a.n, .int .i64 a.m, .int .i64 a.va, kv]) ∧ Hid (Own wr (D + 1) 25 6 PR vs kv Fk) ∧ Hid (∀ b ∈ Fk, b ∈ G ∨ D + 1 ≤ b) ∧ Hid (Chg [D, g] w9 wr) ∧ Hid (Chg [g] w wr) ∧ w9.heap.size ≤ wr.heap.size ∧ Hid (Rd wr g pq) ∧ pq ≤ p3 + 2 * kidSum a q ∧ 0 ≤ m ∧ m ≤ n + 2 * ((kidSum a q : Nat) : Int)) (fun _ iv _ => a.ks.length - (intOf iv).toNat)
    case atStart => exact ⟨0, n, _, [], [], p3, Nat.zero_le _, rfl, rfl, rfl, Nat.zero_le _, KN9, Own.nil _ _ _ _ _, (fun b hb => by cases hb), Chg.refl _ _, HC9, Nat.le_refl _, HR9, by omega, hn0, by omega⟩
    case round =>
      clear HC9 KN9 HR9
      obtain ⟨q, m, kv, Fk, vs, pq, hql, rfl, rfl, HVL, HVS, KD, HO, HFh, HC, HCw, hws9, HRq, hpq, hm0, hm1⟩ := hrel
      obtain ⟨kA, kcap, hkv, hkc1, hkc2⟩ := HO.out.form
      subst hkv
      have hDg : ∀ b, g < b → b ≠ D → b ∉ [D, g] := fun b h1 h2 h => by
        rcases List.mem_cons.1 h with h3 | h3
        · exact h2 h3
        · rw [List.mem_singleton] at h3; omega
      have KPr := Lib.hid (KP9.out.same (HC.out.block _ KP9.out.lt (hDg _ hgl (by omega))))
      have KRr := Lib.hid (KR9.out.same (HC.out.block _ KR9.out.lt (hDg _ (by omega) (by omega))))
      have HFk : Hid (∀ b ∈ Fk, b ≠ D ∧ b ≠ g) := fun b hb => by
        rcases HFh.out b hb with h | h
        · exact ⟨by have := HG.out b h; omega, HGg.out b h⟩
        · exact ⟨by omega, by omega⟩
      have HAr : Hid (Arr wr (PR wr) a.ks (.slice A4 a.ks.length cap4) G) := ArrP.mono HA.out (HCw.out.kept HG.out (fun b hb h => by rw [List.mem_singleton] at h; exact HGg.out b hb h))
      have HGr : Hid (Under wr.heap.size G) := HG.out.mono HCw.out.size
      have klt := KD.out.lt
      clear hDg
      have z0 : wr.cell? ⟨w.heap.size, 0, none⟩ = some (.int .i64 a.op) := (KPr.out.cell 0).trans (by simp)
      have z1 : wr.cell? ⟨w.heap.size, 1, none⟩ = some (.int .i64 a.ct) := (KPr.out.cell 1).trans (by simp)
      have z2 : wr.cell? ⟨w.heap.size, 2, none⟩ = some (.int .i64 a.n) := (KPr.out.cell 2).trans (by simp)
      have z3 : wr.cell? ⟨w.heap.size, 3, none⟩ = some (.int .i64 a.m) := (KPr.out.cell 3).trans (by simp)
      have z4 : wr.cell? ⟨w.heap.size, 4, none⟩ = some (.int .i64 a.va) := (KPr.out.cell 4).trans (by simp)
      have z5 : wr.cell? ⟨w.heap.size, 5, none⟩ = some (.slice A4 a.ks.length cap4) := (KPr.out.cell 5).trans (by simp)
      have zlt := KPr.out.lt
      by_cases hil : q < a.ks.length
      · have g1 : (0 : Int) ≤ (q : Int) := by omega
        have g2 : (q : Int) < (a.ks.length : Int) := by omega
        obtain ⟨b4, off4, rfl⟩ := HAr.out.ptr (by omega)
        obtain ⟨A7, cap7, G7, hb7, c0, c1, c2, c3, c4, c5, HV7, HG7, hsub, -, -⟩ := ArrP.at HAr.out HGr.out (Below.refl _ _) q hil
        have HSUB := Lib.hid hsub
        have hks := kidSum_succ a q hil
        have hkle := kidSum_le a (q + 1)
        have hvl := HVL.out
        have hvl3 : vs.length ≤ 1000000 := by omega
        clear hvl hsub
        have HME : Hid (a.ks[q] ∈ a.ks) := List.getElem_mem hil
        have HCALL := Lib.hid (IH.out a.ks[q] HME.out wr pq g m _ G7 HRq.out (by omega) hm0 (by omega) HV7.out HG7.out (fun b hb => HGg.out b (HSUB.out b hb)))
        go_wp2_with fail
        refine HCALL.out.mono ?_
        rintro e wA ⟨vA, csA, FA, qA, mA, rfl, hpA, hfA, hnA, hRA, hqA, hCA, hmA0, hmA1⟩
        obtain ⟨kvA, rfl, haA⟩ := (PR_iff _ _ _).1 hpA
        obtain ⟨A8, cap8, rfl, -, -⟩ := haA.form
        have hmx : vs.length + 1 ≤ maxLen := by unfold maxLen; omega
        have hby : (vs.length + 1) * 64 ≤ 140737488355328 := by omega
        have hb9 : Below wA.heap.size wA (wA.alloc (.cells #[.int .i64 vA.op, .int .i64 vA.ct, .int .i64 vA.n, .int .i64 vA.m, .int .i64 vA.va, .slice A8 vA.ks.length cap8] 25)) := (Below.refl _ _).alloc (Nat.le_refl _) _
        have HBu : Hid (Chg [g] wr (wA.alloc (.cells #[.int .i64 vA.op, .int .i64 vA.ct, .int .i64 vA.n, .int .i64 vA.m, .int .i64 vA.va, .slice A8 vA.ks.length cap8] 25))) := hCA.alloc _
        have HPb := Lib.hid (hpA.below hb9 (fun b hb => (hfA b hb).1))
        have hDg1 : D ∉ [g] := HG1.out _ (by omega)
        have KDA := hCA.block _ klt hDg1
        have zT : wA.cell? ⟨D, 5, none⟩ = some (.slice kA vs.length kcap) := ((KD.out.same KDA).cell 5).trans (by simp)
        have hkA := (KD.out.same KDA).lt
        have zfT : wA.frozen? ⟨D, 5, none⟩ = false := (KD.out.same KDA).frozen 5
        have HFA : Hid (∀ b ∈ FA, b < wA.heap.size ∧ (b ∈ G ∨ wr.heap.size ≤ b)) := fun b hb => ⟨(hfA b hb).1, by rcases (hfA b hb).2 with h | h; exact .inl (HSUB.out b h); exact .inr h⟩
        have HFA2 : Hid (∀ b ∈ FA, b ≠ D ∧ b ≠ g) := fun b hb => by
          rcases (HFA.out b hb).2 with h | h
          · exact ⟨by have := HG.out b h; omega, HGg.out b h⟩
          · exact ⟨by omega, by omega⟩
        have HFA3 : Hid (∀ x ∈ rowOf (.slice kA vs.length kcap), x ∉ FA) := fun x hx h => by
          have h1 := HO.out.row x hx
          rcases (HFA.out x h).2 with h2 | h2
          · have := HG.out x h2; omega
          · omega
        have HRA := Lib.hid (hRA.below hb9)
        have HNA := Lib.hid hnA
        have HOb : Hid (Own (wA.alloc (.cells #[.int .i64 vA.op, .int .i64 vA.ct, .int .i64 vA.n, .int .i64 vA.m, .int .i64 vA.va, .slice A8 vA.ks.length cap8] 25)) (D + 1) 25 6 PR vs (.slice kA vs.length kcap) Fk) := HO.out.chg2 PR_mono' HBu.out (fun b hb => by rw [List.mem_singleton] at hb; omega) (fun b hb h => by rw [List.mem_singleton] at h; exact (HFk.out b hb).2 h)
        have hsz : D + 1 ≤ (wA.alloc (.cells #[.int .i64 vA.op, .int .i64 vA.ct, .int .i64 vA.n, .int .i64 vA.m, .int .i64 vA.va, .slice A8 vA.ks.length cap8] 25)).heap.size := by have := HBu.out.size; omega
        clear z0 z1 z2 z3 z4 z5 zlt c0 c1 c2 c3 c4 c5 hpA hfA hnA hRA haA KDA HCALL hb7
        go_wp2_with (at_builtin; refine Halt.mk ?_)
        refine Halt.of (wpList_push1 (P := Try.prog) rfl _ _ 23 rfl i0 _ 64 Try.underlying23 HI.out HZ0.out HZ1.out HZ2x.out rfl (by decide) PR_len' PR_mono' (by rfl) HOb.out vA 25 [.int .i64 vA.op, .int .i64 vA.ct, .int .i64 vA.n, .int .i64 vA.m, .int .i64 vA.va, .slice A8 vA.ks.length cap8] FA _ (by rfl) (by simp) (by simp [Value.oneCell']) HPb.out (fun b hb => by rw [World.size_alloc]; have := (HFA.out b hb).1; omega) HFA3.out hmx hby hsz ?_)
        intro gz cp w7 hown7 hgr7 hat7
        have hrow := HOb.out.row
        have n7 : some D ≠ (Value.ownBlock (.slice kA vs.length kcap)) := fun e => by have := (hrow D (mem_rowOf.2 e.symm)).1; omega
        have hl7 : D < ((wA.alloc (.cells #[.int .i64 vA.op, .int .i64 vA.ct, .int .i64 vA.n, .int .i64 vA.m, .int .i64 vA.va, .slice A8 vA.ks.length cap8] 25)).alloc (.cells [.int .i64 vA.op, .int .i64 vA.ct, .int .i64 vA.n, .int .i64 vA.m, .int .i64 vA.va, .slice A8 vA.ks.length cap8].toArray 25)).heap.size := by rw [World.size_alloc, World.size_alloc]; omega
        have z71 : w7.cell? ⟨D, 5, none⟩ = some (.slice kA vs.length kcap) := (World.grownBy.cell_far hgr7 ⟨D, 5, none⟩ hl7 n7).trans ((World.cell?_alloc_lt _ _ _ (by rw [World.size_alloc]; show D < _; omega)).trans ((World.cell?_alloc_lt _ _ _ (show D < wA.heap.size from hkA)).trans zT))
        have zf71 : w7.frozen? ⟨D, 5, none⟩ = false := (World.grownBy.frozen_far hgr7 ⟨D, 5, none⟩ hl7 n7).trans (Eq.trans (World.frozen?_of_block (Below.heap_alloc _ _ _ (by rw [World.size_alloc]; show D < _; omega))) (Eq.trans (World.frozen?_of_block (Below.heap_alloc _ _ _ (show D < wA.heap.size from hkA))) zfT))
        obtain ⟨r1, r2, r3, r4, r5, r6, r7⟩ := kid_round4 (w := w) 5 PR_mono' hs9 (Nat.lt_succ_self D) hgl (by omega) KD.out HO.out HFk.out HC.out HCw.out HBu.out HFA2.out hown7 hgr7 HRA.out
        have R1 := Lib.hid r1
        have R2 := Lib.hid r2
        have R4 := Lib.hid r4
        have R5 := Lib.hid r5
        have R7 := Lib.hid r7
        have R3 : Hid (∀ b ∈ Fk ++ FA, b ∈ G ∨ D + 1 ≤ b) := fun b hb => by
          rcases List.mem_append.1 hb with h | h
          · exact HFh.out b h
          · rcases (HFA.out b h).2 with h2 | h2
            · exact .inl h2
            · exact .inr (by omega)
        have HV2 : Hid ((vs ++ [vA]).length = q + 1) := by have := HVL.out; unfold Hid; rw [List.length_append]; simp only [List.length_cons, List.length_nil]; omega
        have HS2 : Hid (P.sizes (vs ++ [vA]) ≤ 2 * kidSum a (q + 1)) := by unfold Hid; rw [hks]; exact psizes_snoc2 vs vA _ _ HVS.out HNA.out
        have HKS := Lib.hid hks
        have h7D : D < w7.heap.size := Nat.lt_of_lt_of_le hl7 hgr7.size
        clear r1 r2 r3 r4 r5 r7 hown7 hgr7 hat7 hrow n7 hl7 zT zfT hks
        go_wp2
        go_roundw
        case rel => exact ⟨q + 1, mA, _, _, vs ++ [vA], qA, hil, by go_num, rfl, HV2, HS2, R1, (by rw [show (vs ++ [vA]).length = vs.length + 1 from by rw [List.length_append]; rfl] at *; exact R2), R3, R4, R5, r6, R7, by have := HKS.out; omega, hmA0, by have := HKS.out; push_cast [this]; omega⟩
        case measure => (simp [intOf] <;> omega)
      · obtain ⟨FF, hf1, hf3⟩ := kid_done4 (D := D) (g := g) HO.out HFk.out (Nat.lt_succ_self D) (by omega)
        have HF1 := Lib.hid hf1
        have HF3 : Hid (∀ b ∈ FF, b < wr.heap.size ∧ (b ∈ G ∨ w.heap.size ≤ b) ∧ b ≠ w.heap.size + 1) := fun b hb => by
          have h := hf3 b hb
          rcases h.2.2.2 with h2 | h2
          · rcases HFh.out b h2 with h3 | h3
            · exact ⟨h.2.2.1, .inl h3, by have := HG.out b h3; omega⟩
            · exact ⟨h.2.2.1, .inr (by omega), by omega⟩
          · exact ⟨h.2.2.1, .inr (by omega), by omega⟩
        have HFg : Hid (∀ b ∈ FF, b ∉ [g]) := fun b hb h => by rw [List.mem_singleton] at h; exact (hf3 b hb).2.1 h
        have hq : q = a.ks.length := by omega
        have HSZ : Hid (nodesP ⟨a.op, a.ct, a.n, a.m, a.va, vs⟩ ≤ 2 * nodesP a - 1) := by have h1 := HVS.out; rw [hq] at h1; unfold Hid; rw [nodesP_ks]; simp only; omega
        have HRP : Hid (PR wr ⟨a.op, a.ct, a.n, a.m, a.va, vs⟩ [.int .i64 a.op, .int .i64 a.ct, .int .i64 a.n, .int .i64 a.m, .int .i64 a.va, .slice kA vs.length kcap] FF) := (PR_iff _ _ _).2 ⟨_, rfl, HF1.out⟩
        rw [hq] at hpq hm1
        clear hf1 hf3 hq
        by_cases hm5 : m ≤ 5
        · have d1 : decide (m ≤ 5) = true := decide_eq_true hm5
          clear hm5
          go_wp2_with fail
          refine (pick_any 6 pq g wr HRq.out (by omega) (by omega) (by omega)).mono ?_
          rintro e w10 ⟨r10, rfl, -, hR10, hC10⟩
          have KDX := Lib.hid (KD.out.same (hC10.block _ klt (HG1.out _ (by omega))))
          have KRX := Lib.hid (KRr.out.same (hC10.block _ KRr.out.lt (HG1.out _ (by omega))))
          have HCX := Lib.hid (HCw.out.trans hC10)
          have HRX := Lib.hid hR10
          have hzX := hC10.size
          have HRPX := Lib.hid (PR.mono _ _ _ (hC10.kept (fun b hb => (HF3.out b hb).1) HFg.out) HRP.out)
          have HFX : Hid (∀ b ∈ FF, b < w10.heap.size ∧ (b ∈ G ∨ w.heap.size ≤ b) ∧ b ≠ w.heap.size + 1) := fun b hb => ⟨Nat.lt_of_lt_of_le (HF3.out b hb).1 hzX, (HF3.out b hb).2⟩
          clear z0 z1 z2 z3 z4 z5 zlt hR10 hC10
          cases q10 : ((r10 : Int) == 0) with
          | true =>
            have hmw : IntKind.i64.wrap (m + 1) = m + 1 := IntWalk.i64_in _ (by omega)
            have e0 := (KDX.out.cell 0).trans (show _ = some (.int .i64 a.op) from by simp)
            have e1 := (KDX.out.cell 1).trans (show _ = some (.int .i64 a.ct) from by simp)
            have e2 := (KDX.out.cell 2).trans (show _ = some (.int .i64 a.n) from by simp)
            have e3 := (KDX.out.cell 3).trans (show _ = some (.int .i64 a.m) from by simp)
            have e4 := (KDX.out.cell 4).trans (show _ = some (.int .i64 a.va) from by simp)
            have e5 := (KDX.out.cell 5).trans (show _ = some (.slice kA vs.length kcap) from by simp)
            have elt := KDX.out.lt
            have rc0 := (KRX.out.cell 0).trans (show _ = some (.int .i64 0) from by simp)
            have rf0 := KRX.out.frozen 0
            have rc1 := (KRX.out.cell 1).trans (show _ = some (.int .i64 0) from by simp)
            have rf1 := KRX.out.frozen 1
            have rc2 := (KRX.out.cell 2).trans (show _ = some (.int .i64 0) from by simp)
            have rf2 := KRX.out.frozen 2
            have rc3 := (KRX.out.cell 3).trans (show _ = some (.int .i64 0) from by simp)
            have rf3 := KRX.out.frozen 3
            have rc4 := (KRX.out.cell 4).trans (show _ = some (.int .i64 0) from by simp)
            have rf4 := KRX.out.frozen 4
            have rc5 := (KRX.out.cell 5).trans (show _ = some (.slice none 0 0) from by simp)
            have rf5 := KRX.out.frozen 5
            have rlt := KRX.out.lt
            go_wp2
            clear rc0 rf0 rc1 rf1 rc2 rf2 rc3 rf3 rc4 rf4 rc5 rf5 rlt
            obtain ⟨w6, hw6⟩ : ∃ X, X = ((((((w10.setCell ⟨w.heap.size + 1, 0, none⟩ (.int .i64 6)).setCell ⟨w.heap.size + 1, 1, none⟩ (.int .i64 0)).setCell ⟨w.heap.size + 1, 2, none⟩ (.int .i64 0)).setCell ⟨w.heap.size + 1, 3, none⟩ (.int .i64 0)).setCell ⟨w.heap.size + 1, 4, none⟩ (.int .i64 m)).setCell ⟨w.heap.size + 1, 5, none⟩ (.slice (some ⟨w10.heap.size, 0, none⟩) 1 1)) := ⟨_, rfl⟩
            have hs6 : w6.heap.size = w10.heap.size := by rw [hw6, size_six]
            have K6 : Hid (Blk w6 (w.heap.size + 1) 25 #[.int .i64 6, .int .i64 0, .int .i64 0, .int .i64 0, .int .i64 m, .slice (some ⟨w10.heap.size, 0, none⟩) 1 1]) := by rw [hw6]; exact KRX.out.six _ _ _ _ _ _
            have hkp : Kept FF w10 w6 := by rw [hw6]; exact kept_six (w := w10) (H := w.heap.size + 1) (fun b hb => (HFX.out b hb).2.2) _ _ _ _ _ _
            have HP6 := Lib.hid (PR.mono _ _ _ hkp HRPX.out)
            have HR6 : Hid (Rd w6 g (pq + 1)) := by rw [hw6]; exact rd_six HRX.out (by omega) _ _ _ _ _ _
            have HC6 : Hid (Chg [g] w w6) := by rw [hw6]; exact chg_six HCX.out (by omega) _ _ _ _ _ _
            rw [← hw6]
            clear hw6 hkp
            have hbW : Below w6.heap.size w6 (w6.alloc (.cells #[.int .i64 a.op, .int .i64 a.ct, .int .i64 a.n, .int .i64 a.m, .int .i64 a.va, .slice kA vs.length kcap] 25)) := (Below.refl _ _).alloc (Nat.le_refl _) _
            have KAW : Hid (Blk (w6.alloc (.cells #[.int .i64 a.op, .int .i64 a.ct, .int .i64 a.n, .int .i64 a.m, .int .i64 a.va, .slice kA vs.length kcap] 25)) w10.heap.size 25 #[.int .i64 a.op, .int .i64 a.ct, .int .i64 a.n, .int .i64 a.m, .int .i64 a.va, .slice kA vs.length kcap]) := by rw [← hs6]; exact Blk.new _ _ _
            have KRW := Lib.hid (K6.out.same (hbW.block _ K6.out.lt))
            have HCW := Lib.hid (HC6.out.step hbW)
            have HRW := Lib.hid (HR6.out.below hbW)
            have HPW := Lib.hid (HP6.out.below hbW (fun b hb => by rw [hs6]; exact (HFX.out b hb).1))
            have hsW : (w6.alloc (.cells #[.int .i64 a.op, .int .i64 a.ct, .int .i64 a.n, .int .i64 a.m, .int .i64 a.va, .slice kA vs.length kcap] 25)).heap.size = w10.heap.size + 1 := by rw [World.size_alloc, hs6]
            generalize (w6.alloc (.cells #[.int .i64 a.op, .int .i64 a.ct, .int .i64 a.n, .int .i64 a.m, .int .i64 a.va, .slice kA vs.length kcap] 25)) = wW at *
            have HFW : Hid (∀ b ∈ w10.heap.size :: FF, b < wW.heap.size ∧ (b ∈ G ∨ w.heap.size ≤ b)) := fun b hb => by
              rcases List.mem_cons.1 hb with h | h
              · exact ⟨by omega, .inr (by omega)⟩
              · have := HFX.out b h; exact ⟨by omega, this.2.1⟩
            have HAW : Hid (PR wW ⟨6, 0, 0, 0, m, [⟨a.op, a.ct, a.n, a.m, a.va, vs⟩]⟩ [.int .i64 6, .int .i64 0, .int .i64 0, .int .i64 0, .int .i64 m, .slice (some ⟨w10.heap.size, 0, none⟩) 1 1] (w10.heap.size :: FF)) := (PR_iff _ _ _).2 ⟨_, rfl, arr_pat1 KAW.out HPW.out⟩
            have HSW : Hid (nodesP ⟨6, 0, 0, 0, m, [⟨a.op, a.ct, a.n, a.m, a.va, vs⟩]⟩ ≤ 2 * nodesP a) := by have h1 := HSZ.out; unfold Hid; rw [nodesP_ks]; simp only [P.sizes]; unfold nodesP at h1 ⊢; omega
            refine bodyPost_ret (results_cell_tmp rfl _ _ (w.heap.size + 1) 25 #[.int .i64 6, .int .i64 0, .int .i64 0, .int .i64 0, .int .i64 m, .slice (some ⟨w10.heap.size, 0, none⟩) 1 1] (0, 0) _ rfl KRW.out Try.underlying25 rfl rfl) rfl ?_
            exact ⟨⟨6, 0, 0, 0, m, [⟨a.op, a.ct, a.n, a.m, a.va, vs⟩]⟩, [.int .i64 6, .int .i64 0, .int .i64 0, .int .i64 0, .int .i64 m, .slice (some ⟨w10.heap.size, 0, none⟩) 1 1], (w10.heap.size :: FF), pq + 1, (m + 1), rfl, HAW.out, HFW.out, HSW.out, HRW.out, by omega, HCW.out, by omega, by omega⟩
          | false =>
            have e0 := (KDX.out.cell 0).trans (show _ = some (.int .i64 a.op) from by simp)
            have e1 := (KDX.out.cell 1).trans (show _ = some (.int .i64 a.ct) from by simp)
            have e2 := (KDX.out.cell 2).trans (show _ = some (.int .i64 a.n) from by simp)
            have e3 := (KDX.out.cell 3).trans (show _ = some (.int .i64 a.m) from by simp)
            have e4 := (KDX.out.cell 4).trans (show _ = some (.int .i64 a.va) from by simp)
            have e5 := (KDX.out.cell 5).trans (show _ = some (.slice kA vs.length kcap) from by simp)
            have elt := KDX.out.lt
            have rc0 := (KRX.out.cell 0).trans (show _ = some (.int .i64 0) from by simp)
            have rf0 := KRX.out.frozen 0
            have rc1 := (KRX.out.cell 1).trans (show _ = some (.int .i64 0) from by simp)
            have rf1 := KRX.out.frozen 1
            have rc2 := (KRX.out.cell 2).trans (show _ = some (.int .i64 0) from by simp)
            have rf2 := KRX.out.frozen 2
            have rc3 := (KRX.out.cell 3).trans (show _ = some (.int .i64 0) from by simp)
            have rf3 := KRX.out.frozen 3
            have rc4 := (KRX.out.cell 4).trans (show _ = some (.int .i64 0) from by simp)
            have rf4 := KRX.out.frozen 4
            have rc5 := (KRX.out.cell 5).trans (show _ = some (.slice none 0 0) from by simp)
            have rf5 := KRX.out.frozen 5
            have rlt := KRX.out.lt
            go_wp2
            clear rc0 rf0 rc1 rf1 rc2 rf2 rc3 rf3 rc4 rf4 rc5 rf5 rlt
            refine bodyPost_ret (results_cell_tmp rfl _ _ (w.heap.size + 1) 25 #[.int .i64 a.op, .int .i64 a.ct, .int .i64 a.n, .int .i64 a.m, .int .i64 a.va, .slice kA vs.length kcap] (0, 0) _ rfl (KRX.out.six _ _ _ _ _ _) Try.underlying25 rfl rfl) rfl ?_
            have hkp : Kept FF w10 _ := kept_six (w := w10) (H := w.heap.size + 1) (fun b hb => (HFX.out b hb).2.2) (.int .i64 a.op) (.int .i64 a.ct) (.int .i64 a.n) (.int .i64 a.m) (.int .i64 a.va) (.slice kA vs.length kcap)
            exact ⟨⟨a.op, a.ct, a.n, a.m, a.va, vs⟩, [.int .i64 a.op, .int .i64 a.ct, .int .i64 a.n, .int .i64 a.m, .int .i64 a.va, .slice kA vs.length kcap], FF, pq + 1, m, rfl, PR.mono _ _ _ hkp HRPX.out, fun b hb => ⟨by rw [size_six]; exact (HFX.out b hb).1, (HFX.out b hb).2.1⟩, by have := HSZ.out; omega, rd_six HRX.out (by omega) _ _ _ _ _ _, by omega, chg_six HCX.out (by omega) _ _ _ _ _ _, hm0, by omega⟩
        · have d1 : decide (m ≤ 5) = false := decide_eq_false hm5
          clear hm5 z0 z1 z2 z3 z4 z5
          have z5 : wr.cell? ⟨w.heap.size, 5, none⟩ = some (.slice A4 a.ks.length cap4) := (KPr.out.cell 5).trans (by simp)
          have e0 := (KD.out.cell 0).trans (show _ = some (.int .i64 a.op) from by simp)
          have e1 := (KD.out.cell 1).trans (show _ = some (.int .i64 a.ct) from by simp)
          have e2 := (KD.out.cell 2).trans (show _ = some (.int .i64 a.n) from by simp)
          have e3 := (KD.out.cell 3).trans (show _ = some (.int .i64 a.m) from by simp)
          have e4 := (KD.out.cell 4).trans (show _ = some (.int .i64 a.va) from by simp)
          have e5 := (KD.out.cell 5).trans (show _ = some (.slice kA vs.length kcap) from by simp)
          have elt := KD.out.lt
          have rc0 := (KRr.out.cell 0).trans (show _ = some (.int .i64 0) from by simp)
          have rf0 := KRr.out.frozen 0
          have rc1 := (KRr.out.cell 1).trans (show _ = some (.int .i64 0) from by simp)
          have rf1 := KRr.out.frozen 1
          have rc2 := (KRr.out.cell 2).trans (show _ = some (.int .i64 0) from by simp)
          have rf2 := KRr.out.frozen 2
          have rc3 := (KRr.out.cell 3).trans (show _ = some (.int .i64 0) from by simp)
          have rf3 := KRr.out.frozen 3
          have rc4 := (KRr.out.cell 4).trans (show _ = some (.int .i64 0) from by simp)
          have rf4 := KRr.out.frozen 4
          have rc5 := (KRr.out.cell 5).trans (show _ = some (.slice none 0 0) from by simp)
          have rf5 := KRr.out.frozen 5
          have rlt := KRr.out.lt
          go_wp2
          clear rc0 rf0 rc1 rf1 rc2 rf2 rc3 rf3 rc4 rf4 rc5 rf5 rlt
          refine bodyPost_ret (results_cell_tmp rfl _ _ (w.heap.size + 1) 25 #[.int .i64 a.op, .int .i64 a.ct, .int .i64 a.n, .int .i64 a.m, .int .i64 a.va, .slice kA vs.length kcap] (0, 0) _ rfl (KRr.out.six _ _ _ _ _ _) Try.underlying25 rfl rfl) rfl ?_
          have hkp : Kept FF wr _ := kept_six (w := wr) (H := w.heap.size + 1) (fun b hb => (HF3.out b hb).2.2) (.int .i64 a.op) (.int .i64 a.ct) (.int .i64 a.n) (.int .i64 a.m) (.int .i64 a.va) (.slice kA vs.length kcap)
          exact ⟨⟨a.op, a.ct, a.n, a.m, a.va, vs⟩, [.int .i64 a.op, .int .i64 a.ct, .int .i64 a.n, .int .i64 a.m, .int .i64 a.va, .slice kA vs.length kcap], FF, pq, m, rfl, PR.mono _ _ _ hkp HRP.out, fun b hb => ⟨by rw [size_six]; exact (HF3.out b hb).1, (HF3.out b hb).2.1⟩, by have := HSZ.out; omega, rd_six HRq.out (by omega) _ _ _ _ _ _, by omega, chg_six HCw.out (by omega) _ _ _ _ _ _, hm0, by omega⟩

theorem l3Name_of (a : P) (ih : ∀ k ∈ a.ks, NameP k) : NameP a := by
  intro w p g n cs G hr hp hn0 hn1 hv hG hGg
  cases h5 : decide (n > 5) with
  | true => exact l3Name_top a ih w p g n cs G hr hp hn0 hn1 hv hG hGg h5
  | false =>
    cases q5 : (a.op == 5) with
    | true => exact l3Name_or a ih w p g n cs G hr hp hn0 hn1 hv hG hGg h5 q5
    | false =>
      cases q3 : (a.op == 3) with
      | true => exact l3Name_int a ih w p g n cs G hr hp hn0 hn1 hv hG hGg h5 q5 q3
      | false =>
        cases q1 : (a.op == 1) with
        | true => exact l3Name_any a ih w p g n cs G hr hp hn0 hn1 hv hG hGg h5 q5 q3 q1
        | false => exact l3Name_node a ih w p g n cs G hr hp hn0 hn1 hv hG hGg h5 q5 q3 q1
theorem spec_l3Name : ∀ a, NameP a := P.indv l3Name_of
end Go.Proofs.Ytilndhmegaccmaa

namespace Go.Proofs.Ytilndhmegaccmaa
open Go.RowKit

set_option maxRecDepth 100000 in
set_option maxHeartbeats 1600000 in
theorem spec_l3Kids (op : Int) (h4 : ¬ op = 4) (w : World) : Calls Try.prog 157 #[.int .i64 op] w fun e w' => e = .returned (.int .i64 ((kidsN op : Nat) : Int)) ∧ w' = w := by
  have t4 : (op == 4) = false := by simpa using h4
  by_cases h5 : op = 5
  · subst h5
    go_enter Try.func157, Try.ntmps157
    go_wp2
    go_ret
    exact ⟨rfl, rfl⟩
  · have t5 : (op == 5) = false := by simpa using h5
    by_cases h6 : op = 6
    · subst h6
      go_enter Try.func157, Try.ntmps157
      go_wp2
      go_ret
      exact ⟨rfl, rfl⟩
    · have t6 : (op == 6) = false := by simpa using h6
      have hk : Hid (kidsN op = 0) := by unfold Hid kidsN; rw [if_neg h5, if_neg h6]
      go_enter Try.func157, Try.ntmps157
      go_wp2
      go_ret
      exact ⟨by rw [hk.out]; rfl, rfl⟩

set_option maxRecDepth 100000 in
set_option maxHeartbeats 1600000 in
theorem spec_l3Own (xs : List Dt) (hw : WorldOK xs) (t : Ty) (ht : TyIn xs.length t) (p : P) (w : World) (x : Value) (F : List Nat) (cs : List Value) (G : List Nat) : Arr w (DtR w) xs x F → Under w.heap.size F → PR w p cs G → Under w.heap.size G →
    Calls Try.prog 141 #[x, .agg #[.int .i64 t.d, .int .i64 t.i], .agg cs.toArray] w fun e w' => e = .returned (.bool (ownB xs t p)) ∧ Below w.heap.size w w' := by
  intro hx hf hv hg
  obtain ⟨kv, rfl, ha⟩ := (PR_iff _ _ _).1 hv
  obtain ⟨A, cap, rfl, hc1, hc2⟩ := hx.form
  obtain ⟨A4, cap4, rfl, hc3, hc4⟩ := ha.form
  have HV := Lib.hid hv
  have HX := Lib.hid hx
  have HF := Lib.hid hf
  have HA := Lib.hid ha
  have HG := Lib.hid hg
  clear hx hf ha hg
  clear hv
  have HW := Lib.hid hw
  have HT := Lib.hid ht.inWorld
  clear hw ht HA HG HV
  obtain ⟨op, ct, n, m, va, ks⟩ := p
  simp only at hc3 hc4 ⊢
  have HB : Hid (Below w.heap.size w ((w.alloc (.cells #[.int .i64 t.d, .int .i64 t.i] 32)).alloc (.cells #[.int .i64 op, .int .i64 ct, .int .i64 n, .int .i64 m, .int .i64 va, .slice A4 ks.length cap4] 25))) := ((Below.refl _ _).alloc (Nat.le_refl _) _).alloc (by simp) _
  by_cases o1 : op = 1
  · subst o1
    by_cases v1 : va = 0
    · have tv1 : (va != 0) = false := by simp [v1]
      by_cases n1 : n = 0
      · have tn1 : (n != 0) = false := by simp [n1]
        by_cases m1 : m = 0
        · have tm1 : (m != 0) = false := by simp [m1]
          by_cases c1 : ct = 0
          · have tc1 : (ct != 0) = false := by simp [c1]
            have hf : Hid (ownB xs t ⟨1, ct, n, m, va, ks⟩ = true) := by unfold Hid ownB namedB kindB; simp [v1, n1, m1, c1]
            go_enter Try.func141, Try.ntmps141
            go_wp2
            go_ret
            exact ⟨by subst_vars; exact ret_bool hf.out.symm, ((Below.refl _ _).alloc (Nat.le_refl _) _).alloc (by simp) _⟩
          · have tc1 : (ct != 0) = true := by simpa using c1
            have hf : Hid (ownB xs t ⟨1, ct, n, m, va, ks⟩ = false) := by unfold Hid ownB namedB kindB; simp [v1, n1, m1, c1]
            go_enter Try.func141, Try.ntmps141
            go_wp2
            go_ret
            exact ⟨by subst_vars; exact ret_bool hf.out.symm, ((Below.refl _ _).alloc (Nat.le_refl _) _).alloc (by simp) _⟩
        · have tm1 : (m != 0) = true := by simpa using m1
          have hf : Hid (ownB xs t ⟨1, ct, n, m, va, ks⟩ = false) := by unfold Hid ownB namedB kindB; simp [v1, m1]
          go_enter Try.func141, Try.ntmps141
          go_wp2
          go_ret
          exact ⟨by subst_vars; exact ret_bool hf.out.symm, ((Below.refl _ _).alloc (Nat.le_refl _) _).alloc (by simp) _⟩
      · have tn1 : (n != 0) = true := by simpa using n1
        have hf : Hid (ownB xs t ⟨1, ct, n, m, va, ks⟩ = false) := by unfold Hid ownB namedB kindB; simp [v1, n1]
        go_enter Try.func141, Try.ntmps141
        go_wp2
        go_ret
        exact ⟨by subst_vars; exact ret_bool hf.out.symm, ((Below.refl _ _).alloc (Nat.le_refl _) _).alloc (by simp) _⟩
    · have tv1 : (va != 0) = true := by simpa using v1
      have hf : Hid (ownB xs t ⟨1, ct, n, m, va, ks⟩ = false) := by unfold Hid ownB namedB kindB; simp [v1]
      go_enter Try.func141, Try.ntmps141
      go_wp2
      go_ret
      exact ⟨by subst_vars; exact ret_bool hf.out.symm, ((Below.refl _ _).alloc (Nat.le_refl _) _).alloc (by simp) _⟩
  have u1 : (op == 1) = false := by simpa using o1
  by_cases o2 : op = 2
  · subst o2
    by_cases v1 : va < 0
    · have tv1 : (decide (va < 0)) = true := by simpa using v1
      have v1x : ¬ 0 ≤ va := by omega
      have hf : Hid (ownB xs t ⟨2, ct, n, m, va, ks⟩ = false) := by unfold Hid ownB namedB kindB; simp [v1x]
      go_enter Try.func141, Try.ntmps141
      go_wp2
      go_ret
      exact ⟨by subst_vars; exact ret_bool hf.out.symm, ((Below.refl _ _).alloc (Nat.le_refl _) _).alloc (by simp) _⟩
    · have tv1 : (decide (va < 0)) = false := by simpa using v1
      by_cases v2 : 5 < va
      · have tv2 : (decide (va > 5)) = true := by simpa using v2
        have v2x : ¬ va ≤ 5 := by omega
        have hf : Hid (ownB xs t ⟨2, ct, n, m, va, ks⟩ = false) := by unfold Hid ownB namedB kindB; simp [v2x]
        go_enter Try.func141, Try.ntmps141
        go_wp2
        go_ret
        exact ⟨by subst_vars; exact ret_bool hf.out.symm, ((Below.refl _ _).alloc (Nat.le_refl _) _).alloc (by simp) _⟩
      · have tv2 : (decide (va > 5)) = false := by simpa using v2
        have v1x : 0 ≤ va := by omega
        have v2x : va ≤ 5 := by omega
        by_cases n1 : n = 0
        · have tn1 : (n != 0) = false := by simp [n1]
          by_cases m1 : m = 0
          · have tm1 : (m != 0) = false := by simp [m1]
            by_cases c1 : ct = 0
            · have tc1 : (ct != 0) = false := by simp [c1]
              have hf : Hid (ownB xs t ⟨2, ct, n, m, va, ks⟩ = true) := by unfold Hid ownB namedB kindB; simp [v1x, v2x, n1, m1, c1]
              go_enter Try.func141, Try.ntmps141
              go_wp2
              go_ret
              exact ⟨by subst_vars; exact ret_bool hf.out.symm, ((Below.refl _ _).alloc (Nat.le_refl _) _).alloc (by simp) _⟩
            · have tc1 : (ct != 0) = true := by simpa using c1
              have hf : Hid (ownB xs t ⟨2, ct, n, m, va, ks⟩ = false) := by unfold Hid ownB namedB kindB; simp [v1x, v2x, n1, m1, c1]
              go_enter Try.func141, Try.ntmps141
              go_wp2
              go_ret
              exact ⟨by subst_vars; exact ret_bool hf.out.symm, ((Below.refl _ _).alloc (Nat.le_refl _) _).alloc (by simp) _⟩
          · have tm1 : (m != 0) = true := by simpa using m1
            have hf : Hid (ownB xs t ⟨2, ct, n, m, va, ks⟩ = false) := by unfold Hid ownB namedB kindB; simp [v1x, v2x, m1]
            go_enter Try.func141, Try.ntmps141
            go_wp2
            go_ret
            exact ⟨by subst_vars; exact ret_bool hf.out.symm, ((Below.refl _ _).alloc (Nat.le_refl _) _).alloc (by simp) _⟩
        · have tn1 : (n != 0) = true := by simpa using n1
          have hf : Hid (ownB xs t ⟨2, ct, n, m, va, ks⟩ = false) := by unfold Hid ownB namedB kindB; simp [v1x, v2x, n1]
          go_enter Try.func141, Try.ntmps141
          go_wp2
          go_ret
          exact ⟨by subst_vars; exact ret_bool hf.out.symm, ((Below.refl _ _).alloc (Nat.le_refl _) _).alloc (by simp) _⟩
  have u2 : (op == 2) = false := by simpa using o2
  by_cases o3 : op = 3
  · subst o3
    by_cases v1 : va = 0
    · have tv1 : (va != 0) = false := by simp [v1]
      by_cases c1 : ct = 0
      · have tc1 : (ct != 0) = false := by simp [c1]
        by_cases a0 : t.d = -1
        · have b0 : (t.d == -1) = true := by simp [a0]
          by_cases a1 : 0 ≤ n
          · have b1 : decide (n ≥ 0) = true := by simpa using a1
            by_cases a2 : n ≤ m
            · have b2 : decide (n ≤ m) = true := by simpa using a2
              by_cases a3 : m ≤ 9
              · have b3 : decide (m ≤ 9) = true := by simpa using a3
                have hf : Hid (ownB xs t ⟨3, ct, n, m, va, ks⟩ = true) := by unfold Hid ownB namedB kindB; simp [v1, c1, a0, a1, a2, a3]
                go_enter Try.func141, Try.ntmps141
                go_wp2
                go_ret
                exact ⟨by subst_vars; exact ret_bool hf.out.symm, ((Below.refl _ _).alloc (Nat.le_refl _) _).alloc (by simp) _⟩
              · have b3 : decide (m ≤ 9) = false := by simpa using a3
                have hf : Hid (ownB xs t ⟨3, ct, n, m, va, ks⟩ = false) := by unfold Hid ownB namedB kindB; simp [v1, c1, a0, a1, a2, a3]
                go_enter Try.func141, Try.ntmps141
                go_wp2
                go_ret
                exact ⟨by subst_vars; exact ret_bool hf.out.symm, ((Below.refl _ _).alloc (Nat.le_refl _) _).alloc (by simp) _⟩
            · have b2 : decide (n ≤ m) = false := by simpa using a2
              have hf : Hid (ownB xs t ⟨3, ct, n, m, va, ks⟩ = false) := by unfold Hid ownB namedB kindB; simp [v1, c1, a2]
              go_enter Try.func141, Try.ntmps141
              go_wp2
              go_ret
              exact ⟨by subst_vars; exact ret_bool hf.out.symm, ((Below.refl _ _).alloc (Nat.le_refl _) _).alloc (by simp) _⟩
          · have b1 : decide (n ≥ 0) = false := by simpa using a1
            have hf : Hid (ownB xs t ⟨3, ct, n, m, va, ks⟩ = false) := by unfold Hid ownB namedB kindB; simp [v1, c1, a1]
            go_enter Try.func141, Try.ntmps141
            go_wp2
            go_ret
            exact ⟨by subst_vars; exact ret_bool hf.out.symm, ((Below.refl _ _).alloc (Nat.le_refl _) _).alloc (by simp) _⟩
        · have b0 : (t.d == -1) = false := by simpa using a0
          have hf : Hid (ownB xs t ⟨3, ct, n, m, va, ks⟩ = false) := by unfold Hid ownB namedB kindB; simp [v1, c1, a0]
          go_enter Try.func141, Try.ntmps141
          go_wp2
          go_ret
          exact ⟨by subst_vars; exact ret_bool hf.out.symm, ((Below.refl _ _).alloc (Nat.le_refl _) _).alloc (by simp) _⟩
      · have tc1 : (ct != 0) = true := by simpa using c1
        have hf : Hid (ownB xs t ⟨3, ct, n, m, va, ks⟩ = false) := by unfold Hid ownB namedB kindB; simp [v1, c1]
        go_enter Try.func141, Try.ntmps141
        go_wp2
        go_ret
        exact ⟨by subst_vars; exact ret_bool hf.out.symm, ((Below.refl _ _).alloc (Nat.le_refl _) _).alloc (by simp) _⟩
    · have tv1 : (va != 0) = true := by simpa using v1
      have hf : Hid (ownB xs t ⟨3, ct, n, m, va, ks⟩ = false) := by unfold Hid ownB namedB kindB; simp [v1]
      go_enter Try.func141, Try.ntmps141
      go_wp2
      go_ret
      exact ⟨by subst_vars; exact ret_bool hf.out.symm, ((Below.refl _ _).alloc (Nat.le_refl _) _).alloc (by simp) _⟩
  have u3 : (op == 3) = false := by simpa using o3
  by_cases o4 : op = 4
  · subst o4
    by_cases v1 : va = 0
    · have tv1 : (va != 0) = false := by simp [v1]
      by_cases n1 : n = 0
      · have tn1 : (n != 0) = false := by simp [n1]
        by_cases m1 : m = 0
        · have tm1 : (m != 0) = false := by simp [m1]
          have hf : Hid (ownB xs t ⟨4, ct, n, m, va, ks⟩ = hasB (ctorsL xs t) ct) := by unfold Hid ownB namedB kindB; simp [v1, n1, m1]
          subst_vars
          go_enter Try.func141, Try.ntmps141
          go_wp2_with fail
          obtain ⟨W2, hW2⟩ : ∃ W2, W2 = ((w.alloc (.cells #[.int .i64 t.d, .int .i64 t.i] 32)).alloc (.cells #[.int .i64 4, .int .i64 ct, .int .i64 0, .int .i64 0, .int .i64 0, .slice A4 ks.length cap4] 25)) := ⟨_, rfl⟩
          rw [← hW2] at HB
          have KT : Hid (Blk W2 w.heap.size 32 #[.int .i64 t.d, .int .i64 t.i]) := by rw [hW2]; exact (Blk.new w _ _).same (Below.heap_alloc _ _ _ (by simp))
          have KP : Hid (Blk W2 (w.heap.size + 1) 25 #[.int .i64 4, .int .i64 ct, .int .i64 0, .int .i64 0, .int .i64 0, .slice A4 ks.length cap4]) := by rw [hW2]; have h := Blk.new (w.alloc (.cells #[.int .i64 t.d, .int .i64 t.i] 32)) 25 #[.int .i64 4, .int .i64 ct, .int .i64 0, .int .i64 0, .int .i64 0, .slice A4 ks.length cap4]; rw [World.size_alloc] at h; exact h
          rw [← hW2]
          clear hW2
          have y0 : W2.cell? ⟨w.heap.size, 0, none⟩ = some (.int .i64 t.d) := (KT.out.cell 0).trans (by simp)
          have y1 : W2.cell? ⟨w.heap.size, 1, none⟩ = some (.int .i64 t.i) := (KT.out.cell 1).trans (by simp)
          have klt := KT.out.lt
          have z1 : W2.cell? ⟨w.heap.size + 1, 1, none⟩ = some (.int .i64 ct) := (KP.out.cell 1).trans (by simp)
          have klt2 := KP.out.lt
          have hB0 := HB.out
          have hkeep : ∀ U U' : World, (U.cell? ⟨w.heap.size, 0, none⟩ = some (.int .i64 t.d) ∧ U.cell? ⟨w.heap.size, 1, none⟩ = some (.int .i64 t.i) ∧ U.cell? ⟨w.heap.size + 1, 1, none⟩ = some (.int .i64 ct)) → Below U.heap.size U U' → W2.heap.size ≤ U.heap.size → (U'.cell? ⟨w.heap.size, 0, none⟩ = some (.int .i64 t.d) ∧ U'.cell? ⟨w.heap.size, 1, none⟩ = some (.int .i64 t.i) ∧ U'.cell? ⟨w.heap.size + 1, 1, none⟩ = some (.int .i64 ct)) := fun U U' h hUU hU => ⟨(hUU.cell (Nat.lt_of_lt_of_le (klt) hU)).trans h.1, (hUU.cell (Nat.lt_of_lt_of_le (klt) hU)).trans h.2.1, (hUU.cell (Nat.lt_of_lt_of_le (klt2) hU)).trans h.2.2⟩
          have HKeep := Lib.hid hkeep
          clear hkeep
          go_region_held3 (fun w' => w'.cell? ⟨w.heap.size, 0, none⟩ = some (.int .i64 t.d) ∧ w'.cell? ⟨w.heap.size, 1, none⟩ = some (.int .i64 t.i) ∧ w'.cell? ⟨w.heap.size + 1, 1, none⟩ = some (.int .i64 ct)) (first | assumption | (exact ⟨y0, y1, z1⟩) | (exact HKeep.out W2.drew w4 ⟨y0, y1, z1⟩ hb4 (Nat.le_refl _)) | (exact HKeep.out w4 w5 (by assumption) hb5 hlew4)) (first | (go_at_call 108; ((with_reducible refine (spec_l1Ctors xs t _ _ F (ArrDt.below HX.out hB0.drew HF.out) (HF.out.mono hB0.drew.size) HW.out HT.out).mono ?_); rintro e w4 ⟨v4, F4, rfl, hb4, ha4, -, hfs4⟩); have hlew4 : W2.heap.size ≤ w4.heap.size := hb4.size) | (go_at_call 154; ((with_reducible refine (spec_l1Has (ctorsL xs t) ct _ _ F4 ha4 hfs4.under).mono ?_); rintro e w5 ⟨rfl, hb5⟩)))
          have hBa := hB0.drew.trans (hb4.mono hB0.drew.size)
          have hB5 := hBa.trans (hb5.mono hBa.size)
          generalize hasB (ctorsL xs t) ct = r at *
          clear HKeep ha4 hfs4 hb4 hb5 hBa hB0 HB KT KP y0 y1 z1 klt klt2
          go_wp2
          go_ret
          exact ⟨ret_bool hf.out.symm, hB5⟩
        · have tm1 : (m != 0) = true := by simpa using m1
          have hf : Hid (ownB xs t ⟨4, ct, n, m, va, ks⟩ = false) := by unfold Hid ownB namedB kindB; simp [v1, m1]
          go_enter Try.func141, Try.ntmps141
          go_wp2
          go_ret
          exact ⟨by subst_vars; exact ret_bool hf.out.symm, ((Below.refl _ _).alloc (Nat.le_refl _) _).alloc (by simp) _⟩
      · have tn1 : (n != 0) = true := by simpa using n1
        have hf : Hid (ownB xs t ⟨4, ct, n, m, va, ks⟩ = false) := by unfold Hid ownB namedB kindB; simp [v1, n1]
        go_enter Try.func141, Try.ntmps141
        go_wp2
        go_ret
        exact ⟨by subst_vars; exact ret_bool hf.out.symm, ((Below.refl _ _).alloc (Nat.le_refl _) _).alloc (by simp) _⟩
    · have tv1 : (va != 0) = true := by simpa using v1
      have hf : Hid (ownB xs t ⟨4, ct, n, m, va, ks⟩ = false) := by unfold Hid ownB namedB kindB; simp [v1]
      go_enter Try.func141, Try.ntmps141
      go_wp2
      go_ret
      exact ⟨by subst_vars; exact ret_bool hf.out.symm, ((Below.refl _ _).alloc (Nat.le_refl _) _).alloc (by simp) _⟩
  have u4 : (op == 4) = false := by simpa using o4
  by_cases o5 : op = 5
  · subst o5
    by_cases v1 : va = 0
    · have tv1 : (va != 0) = false := by simp [v1]
      by_cases n1 : n = 0
      · have tn1 : (n != 0) = false := by simp [n1]
        by_cases m1 : m = 0
        · have tm1 : (m != 0) = false := by simp [m1]
          by_cases c1 : ct = 0
          · have tc1 : (ct != 0) = false := by simp [c1]
            have hf : Hid (ownB xs t ⟨5, ct, n, m, va, ks⟩ = true) := by unfold Hid ownB namedB kindB; simp [v1, n1, m1, c1]
            go_enter Try.func141, Try.ntmps141
            go_wp2
            go_ret
            exact ⟨by subst_vars; exact ret_bool hf.out.symm, ((Below.refl _ _).alloc (Nat.le_refl _) _).alloc (by simp) _⟩
          · have tc1 : (ct != 0) = true := by simpa using c1
            have hf : Hid (ownB xs t ⟨5, ct, n, m, va, ks⟩ = false) := by unfold Hid ownB namedB kindB; simp [v1, n1, m1, c1]
            go_enter Try.func141, Try.ntmps141
            go_wp2
            go_ret
            exact ⟨by subst_vars; exact ret_bool hf.out.symm, ((Below.refl _ _).alloc (Nat.le_refl _) _).alloc (by simp) _⟩
        · have tm1 : (m != 0) = true := by simpa using m1
          have hf : Hid (ownB xs t ⟨5, ct, n, m, va, ks⟩ = false) := by unfold Hid ownB namedB kindB; simp [v1, m1]
          go_enter Try.func141, Try.ntmps141
          go_wp2
          go_ret
          exact ⟨by subst_vars; exact ret_bool hf.out.symm, ((Below.refl _ _).alloc (Nat.le_refl _) _).alloc (by simp) _⟩
      · have tn1 : (n != 0) = true := by simpa using n1
        have hf : Hid (ownB xs t ⟨5, ct, n, m, va, ks⟩ = false) := by unfold Hid ownB namedB kindB; simp [v1, n1]
        go_enter Try.func141, Try.ntmps141
        go_wp2
        go_ret
        exact ⟨by subst_vars; exact ret_bool hf.out.symm, ((Below.refl _ _).alloc (Nat.le_refl _) _).alloc (by simp) _⟩
    · have tv1 : (va != 0) = true := by simpa using v1
      have hf : Hid (ownB xs t ⟨5, ct, n, m, va, ks⟩ = false) := by unfold Hid ownB namedB kindB; simp [v1]
      go_enter Try.func141, Try.ntmps141
      go_wp2
      go_ret
      exact ⟨by subst_vars; exact ret_bool hf.out.symm, ((Below.refl _ _).alloc (Nat.le_refl _) _).alloc (by simp) _⟩
  have u5 : (op == 5) = false := by simpa using o5
  by_cases o6 : op = 6
  · subst o6
    by_cases v1 : va < 0
    · have tv1 : (decide (va < 0)) = true := by simpa using v1
      have v1x : ¬ 0 ≤ va := by omega
      have hf : Hid (ownB xs t ⟨6, ct, n, m, va, ks⟩ = false) := by unfold Hid ownB namedB kindB; simp [v1x]
      go_enter Try.func141, Try.ntmps141
      go_wp2
      go_ret
      exact ⟨by subst_vars; exact ret_bool hf.out.symm, ((Below.refl _ _).alloc (Nat.le_refl _) _).alloc (by simp) _⟩
    · have tv1 : (decide (va < 0)) = false := by simpa using v1
      by_cases v2 : 5 < va
      · have tv2 : (decide (va > 5)) = true := by simpa using v2
        have v2x : ¬ va ≤ 5 := by omega
        have hf : Hid (ownB xs t ⟨6, ct, n, m, va, ks⟩ = false) := by unfold Hid ownB namedB kindB; simp [v2x]
        go_enter Try.func141, Try.ntmps141
        go_wp2
        go_ret
        exact ⟨by subst_vars; exact ret_bool hf.out.symm, ((Below.refl _ _).alloc (Nat.le_refl _) _).alloc (by simp) _⟩
      · have tv2 : (decide (va > 5)) = false := by simpa using v2
        have v1x : 0 ≤ va := by omega
        have v2x : va ≤ 5 := by omega
        by_cases n1 : n = 0
        · have tn1 : (n != 0) = false := by simp [n1]
          by_cases m1 : m = 0
          · have tm1 : (m != 0) = false := by simp [m1]
            by_cases c1 : ct = 0
            · have tc1 : (ct != 0) = false := by simp [c1]
              have hf : Hid (ownB xs t ⟨6, ct, n, m, va, ks⟩ = true) := by unfold Hid ownB namedB kindB; simp [v1x, v2x, n1, m1, c1]
              go_enter Try.func141, Try.ntmps141
              go_wp2
              go_ret
              exact ⟨by subst_vars; exact ret_bool hf.out.symm, ((Below.refl _ _).alloc (Nat.le_refl _) _).alloc (by simp) _⟩
            · have tc1 : (ct != 0) = true := by simpa using c1
              have hf : Hid (ownB xs t ⟨6, ct, n, m, va, ks⟩ = false) := by unfold Hid ownB namedB kindB; simp [v1x, v2x, n1, m1, c1]
              go_enter Try.func141, Try.ntmps141
              go_wp2
              go_ret
              exact ⟨by subst_vars; exact ret_bool hf.out.symm, ((Below.refl _ _).alloc (Nat.le_refl _) _).alloc (by simp) _⟩
          · have tm1 : (m != 0) = true := by simpa using m1
            have hf : Hid (ownB xs t ⟨6, ct, n, m, va, ks⟩ = false) := by unfold Hid ownB namedB kindB; simp [v1x, v2x, m1]
            go_enter Try.func141, Try.ntmps141
            go_wp2
            go_ret
            exact ⟨by subst_vars; exact ret_bool hf.out.symm, ((Below.refl _ _).alloc (Nat.le_refl _) _).alloc (by simp) _⟩
        · have tn1 : (n != 0) = true := by simpa using n1
          have hf : Hid (ownB xs t ⟨6, ct, n, m, va, ks⟩ = false) := by unfold Hid ownB namedB kindB; simp [v1x, v2x, n1]
          go_enter Try.func141, Try.ntmps141
          go_wp2
          go_ret
          exact ⟨by subst_vars; exact ret_bool hf.out.symm, ((Below.refl _ _).alloc (Nat.le_refl _) _).alloc (by simp) _⟩
  have u6 : (op == 6) = false := by simpa using o6
  have un3 : (op != 3) = true := by simpa using o3
  have un4 : (op != 4) = true := by simpa using o4
  by_cases v1 : va = 0
  · have tv1 : (va != 0) = false := by simp [v1]
    by_cases n1 : n = 0
    · have tn1 : (n != 0) = false := by simp [n1]
      by_cases m1 : m = 0
      · have tm1 : (m != 0) = false := by simp [m1]
        by_cases c1 : ct = 0
        · have tc1 : (ct != 0) = false := by simp [c1]
          have hf : Hid (ownB xs t ⟨op, ct, n, m, va, ks⟩ = false) := by unfold Hid ownB namedB kindB; simp [o1, o2, o3, o4, o5, o6, v1, n1, m1, c1]
          go_enter Try.func141, Try.ntmps141
          go_wp2
          go_ret
          exact ⟨by subst_vars; exact ret_bool hf.out.symm, ((Below.refl _ _).alloc (Nat.le_refl _) _).alloc (by simp) _⟩
        · have tc1 : (ct != 0) = true := by simpa using c1
          have hf : Hid (ownB xs t ⟨op, ct, n, m, va, ks⟩ = false) := by unfold Hid ownB namedB kindB; simp [o1, o2, o3, o4, o5, o6, v1, n1, m1, c1]
          go_enter Try.func141, Try.ntmps141
          go_wp2
          go_ret
          exact ⟨by subst_vars; exact ret_bool hf.out.symm, ((Below.refl _ _).alloc (Nat.le_refl _) _).alloc (by simp) _⟩
      · have tm1 : (m != 0) = true := by simpa using m1
        have hf : Hid (ownB xs t ⟨op, ct, n, m, va, ks⟩ = false) := by unfold Hid ownB namedB kindB; simp [o1, o2, o3, o4, o5, o6, v1, m1]
        go_enter Try.func141, Try.ntmps141
        go_wp2
        go_ret
        exact ⟨by subst_vars; exact ret_bool hf.out.symm, ((Below.refl _ _).alloc (Nat.le_refl _) _).alloc (by simp) _⟩
    · have tn1 : (n != 0) = true := by simpa using n1
      have hf : Hid (ownB xs t ⟨op, ct, n, m, va, ks⟩ = false) := by unfold Hid ownB namedB kindB; simp [o1, o2, o3, o4, o5, o6, v1, n1]
      go_enter Try.func141, Try.ntmps141
      go_wp2
      go_ret
      exact ⟨by subst_vars; exact ret_bool hf.out.symm, ((Below.refl _ _).alloc (Nat.le_refl _) _).alloc (by simp) _⟩
  · have tv1 : (va != 0) = true := by simpa using v1
    have hf : Hid (ownB xs t ⟨op, ct, n, m, va, ks⟩ = false) := by unfold Hid ownB namedB kindB; simp [o1, o2, o3, o4, o5, o6, v1]
    go_enter Try.func141, Try.ntmps141
    go_wp2
    go_ret
    exact ⟨by subst_vars; exact ret_bool hf.out.symm, ((Below.refl _ _).alloc (Nat.le_refl _) _).alloc (by simp) _⟩

def repTo (t : Ty) (i : Nat) : List Ty := List.replicate i t
theorem repTo_len (t : Ty) (i : Nat) : (repTo t i).length = i := List.length_replicate
theorem repTo_succ (t : Ty) (i : Nat) : repTo t (i + 1) = repTo t i ++ [t] := List.replicate_succ'
theorem kidsN_le (op : Int) : kidsN op ≤ 2 := by unfold kidsN; split; omega; split <;> omega
theorem typesP_no {xs : List Dt} {t : Ty} {p : P} (h : ¬ p.op = 4) : typesP xs t p = repTo t (kidsN p.op) := by unfold typesP; rw [if_neg h]; rfl
theorem ownB_ctor {xs : List Dt} {t : Ty} {p : P} (h : p.op = 4) (ho : ownB xs t p = true) : p.ct ∈ ctorsL xs t := by
  unfold ownB kindB at ho
  simp only [Bool.and_eq_true] at ho
  have h2 := ho.2.2.2
  rw [if_neg (by omega), if_pos h] at h2
  exact (hasB_iff _ _).1 h2
set_option maxRecDepth 100000 in
set_option maxHeartbeats 1600000 in
theorem spec_l3Types (xs : List Dt) (hw : WorldOK xs) (t : Ty) (ht : TyIn xs.length t) (p : P) (ho : ownB xs t p = true) (w : World) (x : Value) (F : List Nat) (cs : List Value) (G : List Nat) : Arr w (DtR w) xs x F → Under w.heap.size F → PR w p cs G → Under w.heap.size G →
    Calls Try.prog 130 #[x, .agg #[.int .i64 t.d, .int .i64 t.i], .agg cs.toArray] w (MadeArr TyR w (typesP xs t p)) := by
  intro hx hf hv hg
  obtain ⟨kv, rfl, ha⟩ := (PR_iff _ _ _).1 hv
  obtain ⟨A, cap, rfl, hc1, hc2⟩ := hx.form
  obtain ⟨A4, cap4, rfl, hc3, hc4⟩ := ha.form
  have HV := Lib.hid hv
  have HX := Lib.hid hx
  have HF := Lib.hid hf
  have HA := Lib.hid ha
  have HG := Lib.hid hg
  clear hx hf ha hg
  clear hv
  by_cases h4 : p.op = 4
  · have t4 : (p.op == 4) = true := by simp [h4]
    obtain ⟨q, k, e2, hvc, hq', hkl⟩ := mem_ctorsL (xs := xs) (t := t) ht.inWorld (ownB_ctor h4 ho)
    have hty : typesP xs t p = argsL xs[q].ctors[k] t.i := by
      unfold typesP
      rw [if_pos h4, hvc]
      obtain ⟨td, ti⟩ := t
      simp only at e2
      subst e2
      exact argsOf_get hq' hkl
    have HTY := Lib.hid hty
    have HVC := Lib.hid hvc
    have HE2 := Lib.hid e2
    have HLA := Lib.hid (hw.ctor hq' hkl).args
    clear hty hvc e2 h4 ho hw ht
    go_enter Try.func130, Try.ntmps130
    go_wp2_with fail
    obtain ⟨W2, hW2⟩ : ∃ W2, W2 = ((w.alloc (.cells #[.int .i64 t.d, .int .i64 t.i] 32)).alloc (.cells #[.int .i64 p.op, .int .i64 p.ct, .int .i64 p.n, .int .i64 p.m, .int .i64 p.va, .slice A4 p.ks.length cap4] 25)) := ⟨_, rfl⟩
    have hB0 : Below w.heap.size w W2 := by rw [hW2]; exact ((Below.refl _ _).alloc (Nat.le_refl _) _).alloc (by simp) _
    have KT : Hid (Blk W2 w.heap.size 32 #[.int .i64 t.d, .int .i64 t.i]) := by rw [hW2]; exact (Blk.new w _ _).same (Below.heap_alloc _ _ _ (by simp))
    have KP : Hid (Blk W2 (w.heap.size + 1) 25 #[.int .i64 p.op, .int .i64 p.ct, .int .i64 p.n, .int .i64 p.m, .int .i64 p.va, .slice A4 p.ks.length cap4]) := by rw [hW2]; have h := Blk.new (w.alloc (.cells #[.int .i64 t.d, .int .i64 t.i] 32)) 25 #[.int .i64 p.op, .int .i64 p.ct, .int .i64 p.n, .int .i64 p.m, .int .i64 p.va, .slice A4 p.ks.length cap4]; rw [World.size_alloc] at h; exact h
    have hws : w.heap.size + 2 ≤ W2.heap.size := by rw [hW2]; simp
    have hws2 : W2.heap.size = w.heap.size + 1 + 1 := by rw [hW2]; simp
    rw [← hW2]
    clear hW2
    have y0 : W2.cell? ⟨w.heap.size, 0, none⟩ = some (.int .i64 t.d) := (KT.out.cell 0).trans (by simp)
    have y1 : W2.cell? ⟨w.heap.size, 1, none⟩ = some (.int .i64 t.i) := (KT.out.cell 1).trans (by simp)
    have klt := KT.out.lt
    have z0 : W2.cell? ⟨w.heap.size + 1, 0, none⟩ = some (.int .i64 p.op) := (KP.out.cell 0).trans (by simp)
    have z1 : W2.cell? ⟨w.heap.size + 1, 1, none⟩ = some (.int .i64 p.ct) := (KP.out.cell 1).trans (by simp)
    have klt2 := KP.out.lt
    go_wp2_with fail
    rw [HVC.out, HE2.out]
    refine (spec_l1Args xs q k t.i hq' hkl W2 _ F (ArrDt.below HX.out hB0 HF.out) (HF.out.mono hB0.size) HLA.out).mono ?_
    rintro e w6 ⟨v6, F6, rfl, hb6, ha6, hfr6, hfs6⟩
    have hfin : MadeArr TyR w (typesP xs t p) (.returned v6) w6 := ⟨v6, F6, rfl, hB0.trans (hb6.mono hB0.size), by rw [HTY.out]; exact ha6, hfr6, fun b hb => ⟨Nat.le_trans hB0.size (hfs6 b hb).1, (hfs6 b hb).2⟩⟩
    have HFin := Lib.hid hfin
    clear hfin ha6 hfr6 hfs6 hb6 y0 y1 z0 z1 klt klt2 t4
    go_wp2
    go_ret
    exact HFin.out
  · have t4 : (p.op == 4) = false := by simpa using h4
    obtain ⟨i0, hi, hz0, hz1, hz2⟩ := info_parts info_tyE
    have HI := Lib.hid hi
    have HZ0 := Lib.hid hz0
    have HZ1 := Lib.hid hz1
    have HZ2 := Lib.hid hz2
    clear hi hz0 hz1 hz2
    have HTY := Lib.hid (typesP_no (xs := xs) (t := t) h4)
    have H4 := Lib.hid h4
    have hk2 := kidsN_le p.op
    generalize hkn : kidsN p.op = kn at *
    have HKN := Lib.hid hkn
    clear h4 ho hw ht hkn
    have hws9 : (((w.alloc (.cells #[.int .i64 t.d, .int .i64 t.i] 32)).alloc (.cells #[.int .i64 p.op, .int .i64 p.ct, .int .i64 p.n, .int .i64 p.m, .int .i64 p.va, .slice A4 p.ks.length cap4] 25)).alloc (.cells #[] 32)).heap.size = w.heap.size + 3 := by simp
    go_enter Try.func130, Try.ntmps130
    go_wp2
    obtain ⟨w9, hw9⟩ : ∃ w9, w9 = ((w.alloc (.cells #[.int .i64 t.d, .int .i64 t.i] 32)).alloc (.cells #[.int .i64 p.op, .int .i64 p.ct, .int .i64 p.n, .int .i64 p.m, .int .i64 p.va, .slice A4 p.ks.length cap4] 25)).alloc (.cells #[] 32) := ⟨_, rfl⟩
    have hB0 : Below w.heap.size w w9 := by rw [hw9]; exact (((Below.refl _ _).alloc (Nat.le_refl _) _).alloc (by simp) _).alloc (by simp; omega) _
    have KT : Hid (Blk w9 w.heap.size 32 #[.int .i64 t.d, .int .i64 t.i]) := by rw [hw9]; exact ((Blk.new w _ _).same (Below.heap_alloc _ _ _ (by simp))).same (Below.heap_alloc _ _ _ (by simp; omega))
    have KP : Hid (Blk w9 (w.heap.size + 1) 25 #[.int .i64 p.op, .int .i64 p.ct, .int .i64 p.n, .int .i64 p.m, .int .i64 p.va, .slice A4 p.ks.length cap4]) := by rw [hw9]; have h := Blk.new (w.alloc (.cells #[.int .i64 t.d, .int .i64 t.i] 32)) 25 #[.int .i64 p.op, .int .i64 p.ct, .int .i64 p.n, .int .i64 p.m, .int .i64 p.va, .slice A4 p.ks.length cap4]; rw [World.size_alloc] at h; exact h.same (Below.heap_alloc _ _ _ (by simp))
    have HO : Hid (Own w9 (w.heap.size + 2) 32 2 TyR (repTo t 0) (.slice (some ⟨w.heap.size + 2, 0, none⟩) 0 0) []) := by
      rw [hw9]
      have h := Own.made ((w.alloc (.cells #[.int .i64 t.d, .int .i64 t.i] 32)).alloc (.cells #[.int .i64 p.op, .int .i64 p.ct, .int .i64 p.n, .int .i64 p.m, .int .i64 p.va, .slice A4 p.ks.length cap4] 25)) (w.heap.size + 2) 32 2 TyR #[] 0 (by simp) (by simp [maxLen]) rfl
      rw [show ((w.alloc (.cells #[.int .i64 t.d, .int .i64 t.i] 32)).alloc (.cells #[.int .i64 p.op, .int .i64 p.ct, .int .i64 p.n, .int .i64 p.m, .int .i64 p.va, .slice A4 p.ks.length cap4] 25)).heap.size = w.heap.size + 2 from by simp] at h
      exact h
    rw [← hw9] at hws9 ⊢
    clear hw9
    go_loopw [7, 8] (fun ov iv wr => ∃ i : Nat, i ≤ kn ∧ iv = .int .i64 i ∧ Hid (Own wr (w.heap.size + 2) 32 2 TyR (repTo t i) ov []) ∧ Hid (Blk wr w.heap.size 32 #[.int .i64 t.d, .int .i64 t.i]) ∧ Hid (Blk wr (w.heap.size + 1) 25 #[.int .i64 p.op, .int .i64 p.ct, .int .i64 p.n, .int .i64 p.m, .int .i64 p.va, .slice A4 p.ks.length cap4]) ∧ Below w.heap.size w wr ∧ w.heap.size + 2 ≤ wr.heap.size) (fun _ iv _ => kn - (intOf iv).toNat)
    case atStart => exact ⟨0, Nat.zero_le _, rfl, HO, KT, KP, hB0, by omega⟩
    case round =>
      clear hB0 KT KP HO hws9
      obtain ⟨i, hi, rfl, HO, KT, KP, hB, hsz⟩ := hrel
      obtain ⟨kA, kcap, hkv, hkc1, hkc2⟩ := HO.out.form
      subst hkv
      have y0 : wr.cell? ⟨w.heap.size, 0, none⟩ = some (.int .i64 t.d) := (KT.out.cell 0).trans (by simp)
      have y1 : wr.cell? ⟨w.heap.size, 1, none⟩ = some (.int .i64 t.i) := (KT.out.cell 1).trans (by simp)
      have klt := KT.out.lt
      have z0 : wr.cell? ⟨w.heap.size + 1, 0, none⟩ = some (.int .i64 p.op) := (KP.out.cell 0).trans (by simp)
      have klt2 := KP.out.lt
      have HRL := Lib.hid (repTo_len t i)
      go_wp2_with fail
      refine (spec_l3Kids p.op H4.out wr).mono ?_
      rintro e w' ⟨rfl, hw'⟩
      rw [hw', HKN.out]
      clear hw' w'
      by_cases hil : i < kn
      · have t1 : decide ((i : Int) < (kn : Int)) = true := by simp; omega
        have hB1 : Below wr.heap.size wr wr := Below.refl _ _
        have HF2 := Lib.hid (repTo_succ t i)
        go_wp2_with (at_builtin; refine Halt.mk ?_)
        refine Halt.of (wpList_push1 (P := Try.prog) rfl _ _ 136 rfl i0 _ 16 Try.underlying136 HI.out HZ0.out HZ1.out HZ2.out rfl (by decide) TyR_len' TyR_mono' (by rfl) HO.out t 32 [.int .i64 t.d, .int .i64 t.i] [] wr.heap.size (by rfl) rfl (by simp [Value.oneCell']) ⟨rfl, rfl⟩ (Under.nil _) (fun _ _ h => by cases h) (by have := HRL.out; unfold maxLen; omega) (by have := HRL.out; omega) hsz ?_)
        intro g cp w3 hown3 hgr3 hat3
        have hrow := HO.out.row
        have hba : Below wr.heap.size wr (wr.alloc (.cells #[.int .i64 t.d, .int .i64 t.i] 32)) := (Below.refl _ _).alloc (Nat.le_refl _) _
        have hB3 : Below (w.heap.size + 2) wr w3 := (hba.mono hsz).grown hgr3 (by simp; omega) (fun g hg => (hrow g (mem_rowOf.2 hg)).1)
        have HO3 := Lib.hid hown3
        have KT3 := Lib.hid (KT.out.same (hB3.block _ (by omega)))
        have KP3 := Lib.hid (KP.out.same (hB3.block _ (by omega)))
        have hB4 := hB.trans (hB3.mono (by omega))
        have hsz4 := Nat.le_trans hsz hB3.size
        clear hrow hba hB3 hown3 hgr3 hat3 y0 y1 z0 klt klt2
        go_wp2
        go_roundw
        case rel => exact ⟨i + 1, by omega, by go_num, by rw [HF2.out]; exact HO3.out, KT3, KP3, hB4, hsz4⟩
        case measure => (simp [intOf] <;> omega)
      · have t1 : decide ((i : Int) < (kn : Int)) = false := by simp; omega
        obtain rfl : i = kn := by omega
        have HFin : Hid (MadeArr TyR w (typesP xs t p) (.returned (.slice kA (repTo t i).length kcap)) wr) := by rw [HTY.out]; exact Own.gives HO.out hB (by omega) (fun b hb => by cases hb) (Free.nil _)
        go_wp2
        go_ret
        exact HFin.out
end Go.Proofs.Ytilndhmegaccmaa

namespace Go.Proofs.Ytilndhmegaccmaa
open Go.RowKit

def allP (f : Ty → P → Bool) (ls : List Ty) (ks : List P) : Bool := (ls.zip ks).all fun x => f x.1 x.2
theorem allP_step {f : Ty → P → Bool} {ls : List Ty} {ks : List P} {i : Nat} (h1 : i < ls.length) (h2 : i < ks.length) : allP f (ls.drop i) (ks.drop i) = (f ls[i] ks[i] && allP f (ls.drop (i + 1)) (ks.drop (i + 1))) := by
  rw [List.drop_eq_getElem_cons h1, List.drop_eq_getElem_cons h2]; rfl
theorem allP_end {f : Ty → P → Bool} {ls : List Ty} {ks : List P} {i : Nat} (h1 : ls.length ≤ i) : allP f (ls.drop i) (ks.drop i) = true := by
  rw [List.drop_of_length_le h1]; rfl
theorem shapeB_succ (xs : List Dt) (d : Nat) (t : Ty) (p : P) : shapeB xs (d + 1) t p = (ownB xs t p && (p.ks.length == (typesP xs t p).length && allP (shapeB xs d) (typesP xs t p) p.ks)) := rfl
theorem typesP_in {xs : List Dt} (hw : WorldOK xs) {t : Ty} (ht : TyIn xs.length t) {p : P} (ho : ownB xs t p = true) : ∀ a ∈ typesP xs t p, TyIn xs.length a := fun a ha => by
  by_cases h4 : p.op = 4
  · unfold typesP at ha
    rw [if_pos h4] at ha
    exact argsOf_in hw ht (ownB_ctor h4 ho) ha
  · rw [typesP_no h4] at ha
    have := List.eq_of_mem_replicate ha
    rw [this]; exact ht
theorem typesP_len {xs : List Dt} (hw : WorldOK xs) {t : Ty} (ht : TyIn xs.length t) {p : P} (ho : ownB xs t p = true) : (typesP xs t p).length ≤ 3 := by
  by_cases h4 : p.op = 4
  · unfold typesP
    rw [if_pos h4]
    exact argsOf_len3 hw ht (ownB_ctor h4 ho)
  · rw [typesP_no h4, repTo_len]
    have := kidsN_le p.op
    omega

/-- contract of l3Shape at one pattern -/
def ShapeS (p : P) : Prop := ∀ (xs : List Dt) (_ : WorldOK xs) (d : Nat) (_ : d ≤ 10) (t : Ty) (_ : TyIn xs.length t) (w : World) (x : Value) (F : List Nat) (cs : List Value) (G : List Nat), Arr w (DtR w) xs x F → Under w.heap.size F → PR w p cs G → Under w.heap.size G →
  Calls Try.prog 104 #[x, .agg #[.int .i64 t.d, .int .i64 t.i], .agg cs.toArray, .int .i64 (d : Int)] w fun e w' => e = .returned (.bool (shapeB xs d t p)) ∧ Below w.heap.size w w'

set_option maxRecDepth 100000 in
set_option maxHeartbeats 1600000 in
theorem l3Shape_of (p : P) (ih : ∀ k ∈ p.ks, ShapeS k) : ShapeS p := by
  intro xs hw d hd t ht w x F cs G hx hf hv hg
  have IH := Lib.hid ih
  clear ih
  obtain ⟨kv, rfl, ha⟩ := (PR_iff _ _ _).1 hv
  obtain ⟨A, cap, rfl, hc1, hc2⟩ := hx.form
  obtain ⟨A4, cap4, rfl, hc3, hc4⟩ := ha.form
  have HV := Lib.hid hv
  have HX := Lib.hid hx
  have HF := Lib.hid hf
  have HA := Lib.hid ha
  have HG := Lib.hid hg
  clear hx hf ha hg
  clear hv
  have HW := Lib.hid hw
  have HT := Lib.hid ht
  clear hw ht
  cases d with
  | zero =>
    go_enter Try.func104, Try.ntmps104
    go_wp2
    go_ret
    exact ⟨ret_bool rfl, ((Below.refl _ _).alloc (Nat.le_refl _) _).alloc (by simp) _⟩
  | succ d =>
  have hd1 : decide (((d + 1 : Nat) : Int) < 1) = false := by simp; omega
  have hde : ((d + 1 : Nat) : Int) = (d : Int) + 1 := by omega
  rw [hde] at hd1 ⊢
  clear hde
  have HFD := Lib.hid (shapeB_succ xs d t p)
  go_enter Try.func104, Try.ntmps104
  go_wp2_with fail
  obtain ⟨W2, hW2⟩ : ∃ W2, W2 = ((w.alloc (.cells #[.int .i64 t.d, .int .i64 t.i] 32)).alloc (.cells #[.int .i64 p.op, .int .i64 p.ct, .int .i64 p.n, .int .i64 p.m, .int .i64 p.va, .slice A4 p.ks.length cap4] 25)) := ⟨_, rfl⟩
  have hB0 : Below w.heap.size w W2 := by rw [hW2]; exact ((Below.refl _ _).alloc (Nat.le_refl _) _).alloc (by simp) _
  have KT : Hid (Blk W2 w.heap.size 32 #[.int .i64 t.d, .int .i64 t.i]) := by rw [hW2]; exact (Blk.new w _ _).same (Below.heap_alloc _ _ _ (by simp))
  have KP : Hid (Blk W2 (w.heap.size + 1) 25 #[.int .i64 p.op, .int .i64 p.ct, .int .i64 p.n, .int .i64 p.m, .int .i64 p.va, .slice A4 p.ks.length cap4]) := by rw [hW2]; have h := Blk.new (w.alloc (.cells #[.int .i64 t.d, .int .i64 t.i] 32)) 25 #[.int .i64 p.op, .int .i64 p.ct, .int .i64 p.n, .int .i64 p.m, .int .i64 p.va, .slice A4 p.ks.length cap4]; rw [World.size_alloc] at h; exact h
  have hws : w.heap.size + 2 ≤ W2.heap.size := by rw [hW2]; simp
  rw [← hW2]
  clear hW2
  have y0 : W2.cell? ⟨w.heap.size, 0, none⟩ = some (.int .i64 t.d) := (KT.out.cell 0).trans (by simp)
  have y1 : W2.cell? ⟨w.heap.size, 1, none⟩ = some (.int .i64 t.i) := (KT.out.cell 1).trans (by simp)
  have klt := KT.out.lt
  have z0 : W2.cell? ⟨w.heap.size + 1, 0, none⟩ = some (.int .i64 p.op) := (KP.out.cell 0).trans (by simp)
  have z1 : W2.cell? ⟨w.heap.size + 1, 1, none⟩ = some (.int .i64 p.ct) := (KP.out.cell 1).trans (by simp)
  have z2 : W2.cell? ⟨w.heap.size + 1, 2, none⟩ = some (.int .i64 p.n) := (KP.out.cell 2).trans (by simp)
  have z3 : W2.cell? ⟨w.heap.size + 1, 3, none⟩ = some (.int .i64 p.m) := (KP.out.cell 3).trans (by simp)
  have z4 : W2.cell? ⟨w.heap.size + 1, 4, none⟩ = some (.int .i64 p.va) := (KP.out.cell 4).trans (by simp)
  have z5 : W2.cell? ⟨w.heap.size + 1, 5, none⟩ = some (.slice A4 p.ks.length cap4) := (KP.out.cell 5).trans (by simp)
  have klt2 := KP.out.lt
  go_wp2_with fail
  refine (spec_l3Own xs HW.out t HT.out p W2 _ F _ G (ArrDt.below HX.out hB0 HF.out) (HF.out.mono hB0.size) (HV.out.below hB0 HG.out) (HG.out.mono hB0.size)).mono ?_
  rintro e w3 ⟨rfl, hb3⟩
  have hB3 := hB0.trans (hb3.mono hB0.size)
  have KT3 := Lib.hid (KT.out.same (hb3.block _ KT.out.lt))
  have KP3 := Lib.hid (KP.out.same (hb3.block _ KP.out.lt))
  clear y0 y1 z0 z1 z2 z3 z4 z5 klt klt2
  have y0 : w3.cell? ⟨w.heap.size, 0, none⟩ = some (.int .i64 t.d) := (KT3.out.cell 0).trans (by simp)
  have y1 : w3.cell? ⟨w.heap.size, 1, none⟩ = some (.int .i64 t.i) := (KT3.out.cell 1).trans (by simp)
  have klt := KT3.out.lt
  have z0 : w3.cell? ⟨w.heap.size + 1, 0, none⟩ = some (.int .i64 p.op) := (KP3.out.cell 0).trans (by simp)
  have z1 : w3.cell? ⟨w.heap.size + 1, 1, none⟩ = some (.int .i64 p.ct) := (KP3.out.cell 1).trans (by simp)
  have z2 : w3.cell? ⟨w.heap.size + 1, 2, none⟩ = some (.int .i64 p.n) := (KP3.out.cell 2).trans (by simp)
  have z3 : w3.cell? ⟨w.heap.size + 1, 3, none⟩ = some (.int .i64 p.m) := (KP3.out.cell 3).trans (by simp)
  have z4 : w3.cell? ⟨w.heap.size + 1, 4, none⟩ = some (.int .i64 p.va) := (KP3.out.cell 4).trans (by simp)
  have z5 : w3.cell? ⟨w.heap.size + 1, 5, none⟩ = some (.slice A4 p.ks.length cap4) := (KP3.out.cell 5).trans (by simp)
  have klt2 := KP3.out.lt
  clear hb3 KT KP hB0
  cases e1 : ownB xs t p with
  | false =>
    have hf : Hid (shapeB xs (d + 1) t p = false) := by rw [HFD.out, e1]; rfl
    clear e1
    go_wp2
    go_ret
    exact ⟨ret_bool hf.out.symm, hB3⟩
  | true =>
    have h1 : shapeB xs (d + 1) t p = (p.ks.length == (typesP xs t p).length && allP (shapeB xs d) (typesP xs t p) p.ks) := by rw [HFD.out, e1, Bool.true_and]
    have H1 := Lib.hid h1
    have HO := Lib.hid e1
    have HAI := Lib.hid (typesP_in HW.out HT.out e1)
    have hl3 := typesP_len HW.out HT.out e1
    clear h1 e1
    go_wp2_with fail
    refine (spec_l3Types xs HW.out t HT.out p HO.out w3 _ F _ G (ArrDt.below HX.out hB3 HF.out) (HF.out.mono hB3.size) (HV.out.below hB3 HG.out) (HG.out.mono hB3.size)).mono ?_
    rintro e w6 ⟨v6, F6, rfl, hb6, ha6, -, hfs6⟩
    have hB6 := hB3.trans (hb6.mono hB3.size)
    have KT6 := Lib.hid (KT3.out.same (hb6.block _ KT3.out.lt))
    have KP6 := Lib.hid (KP3.out.same (hb6.block _ KP3.out.lt))
    generalize hass : typesP xs t p = ls at *
    clear hass
    obtain ⟨A6, cap6, rfl, hd3, hd4⟩ := ha6.form
    have HA6 := Lib.hid ha6
    have HU6 := Lib.hid hfs6.under
    clear y0 y1 z0 z1 z2 z3 z4 z5 klt klt2
    clear ha6 hfs6 hb6 KT3 KP3 hB3 KT6
    have z5 : w6.cell? ⟨w.heap.size + 1, 5, none⟩ = some (.slice A4 p.ks.length cap4) := (KP6.out.cell 5).trans (by simp)
    have klt2 := KP6.out.lt
    by_cases hln : p.ks.length = ls.length
    · have t2 : ((p.ks.length : Int) != (ls.length : Int)) = false := by simp [hln]
      have h3 : shapeB xs (d + 1) t p = allP (shapeB xs d) ls p.ks := by rw [H1.out, hln]; simp
      have H3 := Lib.hid h3
      have HLN := Lib.hid hln
      clear h3 hln
      go_wp2
      clear z5 klt2 t2
      go_loopw [10] (fun iv wr => ∃ i : Nat, i ≤ ls.length ∧ iv = .int .i64 i ∧ Hid (shapeB xs (d + 1) t p = allP (shapeB xs d) (ls.drop i) (p.ks.drop i)) ∧ Hid (Blk wr (w.heap.size + 1) 25 #[.int .i64 p.op, .int .i64 p.ct, .int .i64 p.n, .int .i64 p.m, .int .i64 p.va, .slice A4 p.ks.length cap4]) ∧ Below w.heap.size w wr ∧ Hid (Below w6.heap.size w6 wr)) (fun iv _ => ls.length - (intOf iv).toNat)
      case atStart => exact ⟨0, Nat.zero_le _, rfl, H3, KP6, hB6, Below.refl _ _⟩
      case round =>
        clear hB6
        obtain ⟨i, hi, rfl, HR, KP, hB, HB6⟩ := hrel
        by_cases hil : i < ls.length
        · have hik : i < p.ks.length := by rw [HLN.out]; exact hil
          obtain ⟨b6, off6, rfl⟩ := HA6.out.ptr (by omega)
          obtain ⟨hb6, a0, a1⟩ := ArrTy.at HA6.out HU6.out HB6.out i hil
          obtain ⟨b4, off4, rfl⟩ := HA.out.ptr (by omega)
          obtain ⟨A7, cap7, G7, hb7, k0, k1, k2, k3, k4, k5, HV7, HG7, -, -, -⟩ := ArrP.at HA.out HG.out hB i hik
          have z5 : wr.cell? ⟨w.heap.size + 1, 5, none⟩ = some (.slice (some ⟨b4, off4, none⟩) p.ks.length cap4) := (KP.out.cell 5).trans (by simp)
          have klt2 := KP.out.lt
          have g1 : (0 : Int) ≤ (i : Int) := by omega
          have g2 : (i : Int) < (ls.length : Int) := by omega
          have g3 : (i : Int) < (p.ks.length : Int) := by omega
          have hstep := HR.out
          rw [allP_step hil hik] at hstep
          have HST := Lib.hid hstep
          clear hstep
          have hwr : IntKind.i64.wrap (d : Int) = (d : Int) := IntWalk.i64_in _ (by omega)
          have HCALL := Lib.hid (IH.out p.ks[i] (List.getElem_mem hik) xs HW.out d (by omega) ls[i] (HAI.out _ (List.getElem_mem hil)) wr.drew _ F _ G7 (ArrDt.below HX.out hB.drew HF.out) (HF.out.mono hB.drew.size) (HV7.out.below hB.drew HG7.out) (HG7.out.mono hB.drew.size))
          go_wp2_with fail
          have hkeep : ∀ U U' : World, (U.cell? ⟨b6, off6 + i * 2, none⟩ = some (.int .i64 ls[i].d) ∧ U.cell? ⟨b6, off6 + i * 2 + 1, none⟩ = some (.int .i64 ls[i].i) ∧ U.cell? ⟨w.heap.size + 1, 5, none⟩ = some (.slice (some ⟨b4, off4, none⟩) p.ks.length cap4) ∧ U.cell? ⟨b4, off4 + i * 6, none⟩ = some (.int .i64 p.ks[i].op) ∧ U.cell? ⟨b4, off4 + i * 6 + 1, none⟩ = some (.int .i64 p.ks[i].ct) ∧ U.cell? ⟨b4, off4 + i * 6 + 2, none⟩ = some (.int .i64 p.ks[i].n) ∧ U.cell? ⟨b4, off4 + i * 6 + 3, none⟩ = some (.int .i64 p.ks[i].m) ∧ U.cell? ⟨b4, off4 + i * 6 + 4, none⟩ = some (.int .i64 p.ks[i].va) ∧ U.cell? ⟨b4, off4 + i * 6 + 5, none⟩ = some (.slice A7 p.ks[i].ks.length cap7)) → Below U.heap.size U U' → wr.heap.size ≤ U.heap.size → (U'.cell? ⟨b6, off6 + i * 2, none⟩ = some (.int .i64 ls[i].d) ∧ U'.cell? ⟨b6, off6 + i * 2 + 1, none⟩ = some (.int .i64 ls[i].i) ∧ U'.cell? ⟨w.heap.size + 1, 5, none⟩ = some (.slice (some ⟨b4, off4, none⟩) p.ks.length cap4) ∧ U'.cell? ⟨b4, off4 + i * 6, none⟩ = some (.int .i64 p.ks[i].op) ∧ U'.cell? ⟨b4, off4 + i * 6 + 1, none⟩ = some (.int .i64 p.ks[i].ct) ∧ U'.cell? ⟨b4, off4 + i * 6 + 2, none⟩ = some (.int .i64 p.ks[i].n) ∧ U'.cell? ⟨b4, off4 + i * 6 + 3, none⟩ = some (.int .i64 p.ks[i].m) ∧ U'.cell? ⟨b4, off4 + i * 6 + 4, none⟩ = some (.int .i64 p.ks[i].va) ∧ U'.cell? ⟨b4, off4 + i * 6 + 5, none⟩ = some (.slice A7 p.ks[i].ks.length cap7)) := fun U U' h hUU hU => ⟨(hUU.cell (Nat.lt_of_lt_of_le (hb6) hU)).trans h.1, (hUU.cell (Nat.lt_of_lt_of_le (hb6) hU)).trans h.2.1, (hUU.cell (Nat.lt_of_lt_of_le (klt2) hU)).trans h.2.2.1, (hUU.cell (Nat.lt_of_lt_of_le (hb7) hU)).trans h.2.2.2.1, (hUU.cell (Nat.lt_of_lt_of_le (hb7) hU)).trans h.2.2.2.2.1, (hUU.cell (Nat.lt_of_lt_of_le (hb7) hU)).trans h.2.2.2.2.2.1, (hUU.cell (Nat.lt_of_lt_of_le (hb7) hU)).trans h.2.2.2.2.2.2.1, (hUU.cell (Nat.lt_of_lt_of_le (hb7) hU)).trans h.2.2.2.2.2.2.2.1, (hUU.cell (Nat.lt_of_lt_of_le (hb7) hU)).trans h.2.2.2.2.2.2.2.2⟩
          have HKeep := Lib.hid hkeep
          clear hkeep
          go_region_held3 (fun w' => w'.cell? ⟨b6, off6 + i * 2, none⟩ = some (.int .i64 ls[i].d) ∧ w'.cell? ⟨b6, off6 + i * 2 + 1, none⟩ = some (.int .i64 ls[i].i) ∧ w'.cell? ⟨w.heap.size + 1, 5, none⟩ = some (.slice (some ⟨b4, off4, none⟩) p.ks.length cap4) ∧ w'.cell? ⟨b4, off4 + i * 6, none⟩ = some (.int .i64 p.ks[i].op) ∧ w'.cell? ⟨b4, off4 + i * 6 + 1, none⟩ = some (.int .i64 p.ks[i].ct) ∧ w'.cell? ⟨b4, off4 + i * 6 + 2, none⟩ = some (.int .i64 p.ks[i].n) ∧ w'.cell? ⟨b4, off4 + i * 6 + 3, none⟩ = some (.int .i64 p.ks[i].m) ∧ w'.cell? ⟨b4, off4 + i * 6 + 4, none⟩ = some (.int .i64 p.ks[i].va) ∧ w'.cell? ⟨b4, off4 + i * 6 + 5, none⟩ = some (.slice A7 p.ks[i].ks.length cap7)) (first | assumption | (exact ⟨a0, a1, z5, k0, k1, k2, k3, k4, k5⟩) | (exact HKeep.out wr.drew w' ⟨a0, a1, z5, k0, k1, k2, k3, k4, k5⟩ hB' (Nat.le_refl _))) (first | (go_at_call 104; ((with_reducible refine HCALL.out.mono ?_); rintro e w' ⟨rfl, hB'⟩)))
          have hB3 := hB.drew.trans (hB'.mono hB.size)
          have HB3 := Lib.hid (HB6.out.drew.trans (hB'.mono HB6.out.size))
          have KP3 := Lib.hid (KP.out.same (hB'.block _ KP.out.lt))
          clear HKeep hwr
          cases e3 : shapeB xs d ls[i] p.ks[i] with
          | false =>
            have hf : Hid (shapeB xs (d + 1) t p = false) := by rw [HST.out, e3]; rfl
            clear e3
            go_wp2
            go_ret
            exact ⟨ret_bool hf.out.symm, hB3⟩
          | true =>
            have hR2 : Hid (shapeB xs (d + 1) t p = allP (shapeB xs d) (ls.drop (i + 1)) (p.ks.drop (i + 1))) := by rw [HST.out, e3, Bool.true_and]; rfl
            clear e3
            go_wp2
            go_roundw
            case rel => exact ⟨i + 1, by omega, by go_num, hR2, KP3, hB3, HB3⟩
            case measure => (simp [intOf] <;> omega)
        · have hf : Hid (shapeB xs (d + 1) t p = true) := by rw [HR.out]; exact allP_end (by omega)
          go_wp2
          go_ret
          exact ⟨ret_bool hf.out.symm, hB⟩
    · have t2 : ((p.ks.length : Int) != (ls.length : Int)) = true := by rw [bne_iff_ne]; omega
      have hf : Hid (shapeB xs (d + 1) t p = false) := by unfold Hid; rw [H1.out]; simp [hln]
      clear hln
      go_wp2
      go_ret
      exact ⟨ret_bool hf.out.symm, hB6⟩
theorem spec_l3Shape : ∀ p, ShapeS p := P.indv l3Shape_of
end Go.Proofs.Ytilndhmegaccmaa

namespace Go.Proofs.Ytilndhmegaccmaa
open Go.RowKit

theorem ArrVt.at {w0 w : World} {b off n cap : Nat} {F : List Nat} {xs : List Vt} (h : Arr w0 (VtR w0) xs (.slice (some ⟨b, off, none⟩) n cap) F) (hF : Under w0.heap.size F) (hB : Below w0.heap.size w0 w) (i : Nat) (hi : i < xs.length) :
    b < w.heap.size ∧ w.cell? ⟨b, off + i * 3, none⟩ = some (.int .i64 xs[i].var) ∧ w.cell? ⟨b, off + i * 3 + 1, none⟩ = some (.int .i64 xs[i].ty.d) ∧ w.cell? ⟨b, off + i * 3 + 2, none⟩ = some (.int .i64 xs[i].ty.i) := by
  obtain ⟨b', off', cs, G, e, hb, hcs, hv, hG⟩ := h.get (VtR_len w0) hi
  cases e
  have hbl := hF _ hb
  have hc := hcs.same (hB.block _ hbl)
  obtain ⟨rfl, rfl⟩ := hv
  exact ⟨Nat.lt_of_lt_of_le hbl hB.size, hc 0 _ rfl, hc 1 _ rfl, hc 2 _ rfl⟩
set_option maxRecDepth 100000 in
set_option maxHeartbeats 1600000 in
theorem spec_l3Find (xs : List Vt) (n r : Int) (hr : FirstAt (fun x : Vt => x.var == n) xs r) (w : World) (x : Value) (F : List Nat) (hx : Arr w (VtR w) xs x F) (hf : Under w.heap.size F) :
    Calls Try.prog 143 #[x, .int .i64 n] w fun e w' => e = .returned (.int .i64 r) ∧ Below w.heap.size w w' := by
  obtain ⟨A, cap, rfl, hc1, hc2⟩ := hx.form
  have HX := Lib.hid hx
  have HF := Lib.hid hf
  have HR := Lib.hid hr
  clear hx hf hr
  go_enter Try.func143, Try.ntmps143
  go_wp2
  go_loopw [5] (fun i wr => ∃ k : Nat, k ≤ xs.length ∧ i = .int .i64 k ∧ Hid (∀ j (hj : j < xs.length), j < k → (xs[j].var == n) = false) ∧ Below w.heap.size w wr) (fun i _ => xs.length - (intOf i).toNat)
  case atStart => exact ⟨0, Nat.zero_le _, rfl, fun j hj h => by omega, Below.refl _ _⟩
  case round =>
    obtain ⟨k, hk, rfl, HT, hB⟩ := hrel
    by_cases hlt : k < xs.length
    · have g1 : (0 : Int) ≤ (k : Int) := by omega
      have g2 : (k : Int) < (xs.length : Int) := by omega
      obtain ⟨b, off, rfl⟩ := HX.out.ptr (by omega)
      obtain ⟨hb, c0, c1, c2⟩ := ArrVt.at HX.out HF.out hB k hlt
      cases hq : (xs[k].var == n) with
      | true =>
        have hf := Lib.hid (HR.out.hit hlt hq (fun j hj h => HT.out j hj h))
        go_wp2
        go_ret
        exact ⟨ret_int hf.out.symm, hB⟩
      | false =>
        have hT2 : Hid (∀ j (hj : j < xs.length), j < k + 1 → (xs[j].var == n) = false) := fun j hj h => by
          rcases Nat.lt_or_ge j k with h2 | h2
          · exact HT.out j hj h2
          · obtain rfl : j = k := by omega
            exact hq
        go_wp2
        go_roundw
        case rel => exact ⟨k + 1, by omega, by go_num, hT2, hB⟩
        case measure => (simp [intOf] <;> omega)
    · have hf : Hid (r = -1) := HR.out.miss (fun j hj => HT.out j hj (by omega))
      go_wp2
      go_ret
      exact ⟨ret_int hf.out.symm, hB⟩
end Go.Proofs.Ytilndhmegaccmaa
