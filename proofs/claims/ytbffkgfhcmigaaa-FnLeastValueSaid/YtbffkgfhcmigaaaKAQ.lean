/-
  Lemmas and contracts of functions: What l1Mutate makes of its copy of a world, case by case. Conditions: the lists are short. l1Copy of the reference: a deep copy of a world. Conditions: no list of it is longer than 100. l1Mutate of the reference: a copy of a world, sometimes made invalid. Conditions: its lists are short; the reader has given no more than 900000 numbers. Drawn worlds and types. Conditions: none. Contracts of the two functions DepthOf. Conditions: at most 1048576 parts. ValueSame of the reference: equality of Values. Conditions: none. Least values are valid and as deep as the table says. Conditions: the world is valid. ValueSame of the program, by slices.EqualFunc: equality of Values. Conditions: none. A slice of bytes that comes in as an argument lies in memory as the plain data say. Conditions: none.
-/
import Derived.Test.YtbffkgfhcmigaaaKAP
import Derived.Deep.RegionWith
import Derived.Test.YtbffkgfhcmigaaaKAA
import Derived.Test.YtbffkgfhcmigaaaKAO
import Derived.Test.YtbffkgfhcmigaaaKAC
import Derived.Test.YtbffkgfhcmigaaaChecked
import Derived.Deep.RegionHeld3
import Derived.BigQuiet
import Derived.Test.YtbffkgfhcmigaaaKAN
import Derived.Test.YtbffkgfhcmigaaaKAH

set_option linter.unusedVariables false
set_option linter.unusedSimpArgs false

namespace Go.Proofs.Ytbffkgfhcmigaaa
open Go.RowKit

theorem Rd.same {w w' : World} {g p : Nat} (h : Rd w g p) (hk : ∀ b, b ≤ g → w'.heap[b]? = w.heap[b]?) : Rd w' g p := by
  obtain ⟨A, cap, bs, F, h1, h2, h3, h5⟩ := h
  exact ⟨A, cap, bs, F, h1.same (hk g (Nat.le_refl _)), ArrBy.mono h2 (fun c hc => hk c (Nat.le_of_lt (h3 c hc))), h3, h5⟩
theorem Rd.low {w w' : World} {g p B : Nat} (h : Rd w g p) (hb : Below B w w') (hg : g < B) : Rd w' g p := h.same fun b hb' => hb.block b (by omega)
theorem SmallW.set {n : Nat} {xs : List Dt} {d : Nat} {y : Dt} (h : SmallW n xs) (h1 : y.ctors.length ≤ n) (h2 : ∀ c ∈ y.ctors, c.args.length ≤ n) : SmallW n (xs.set d y) := fun x hx => by
  rcases List.mem_or_eq_of_mem_set hx with hx | rfl
  · exact h x hx
  · exact ⟨h1, h2⟩
theorem SmallW.mono {n m : Nat} {xs : List Dt} (h : SmallW n xs) (hm : n ≤ m) : SmallW m xs := fun x hx => ⟨Nat.le_trans (h x hx).1 hm, fun c hc => Nat.le_trans ((h x hx).2 c hc) hm⟩

/-- the copy in the walk of l1Mutate: w is the world at the call, w1 the world now -/
structure Cpy (g q : Nat) (xs : List Dt) (v : Value) (F : List Nat) (w w1 : World) : Prop where
  rd : Rd w1 g q
  chg : Chg [g] w w1
  own : Own w1 w.heap.size 112 2 DtO xs v F
  free : Free w1 F
  fresh : ∀ b ∈ F, w.heap.size ≤ b
  lt : g < w.heap.size
/-- what l1Mutate gives -/
def Mutd (g p m : Nat) (xs : List Dt) (w : World) (e : Ending) (w' : World) : Prop := DrewWorld g p 10 w (fun ys => 0 < ys.length ∧ ys.length ≤ xs.length + 1 ∧ SmallW (m + 1) ys) e w'

section
variable {g q p m : Nat} {xs : List Dt} {v : Value} {F : List Nat} {w w1 w2 : World}
theorem Cpy.step {q' : Nat} (h : Cpy g q xs v F w w1) (hr : Rd w2 g q') (hc : Chg [g] w1 w2) : Cpy g q' xs v F w w2 := by
  have hu := h.own.under
  have hro := h.own.row
  have hlt := h.lt
  refine ⟨hr, h.chg.trans hc, h.own.mono (fun x cs G hk h => DtO_mono _ _ x cs G hk h) (hc.kept (fun b hb => ?_) (fun b hb => ?_)) hc.size, h.free.kept (hc.kept hu (fun b hb => ?_)), h.fresh, hlt⟩
  · rcases List.mem_append.1 hb with h1 | h1
    · exact (hro b h1).2
    · exact hu b h1
  · rw [List.mem_singleton]
    rcases List.mem_append.1 hb with h1 | h1
    · have := (hro b h1).1; omega
    · have := h.fresh b h1; omega
  · rw [List.mem_singleton]
    have := h.fresh b hb; omega
theorem Cpy.drew (h : Cpy g q xs v F w w1) : Cpy g q xs v F w w1.drew := h.step h.rd (Chg.refl _ _).drew
theorem Cpy.arr (h : Cpy g q xs v F w w1) : ∃ FF, Arr w1 (DtO w1) xs v FF ∧ Free w1 FF ∧ ∀ b ∈ FF, w.heap.size ≤ b ∧ b < w1.heap.size := by
  refine ⟨_, h.own.arr, h.own.free h.free, fun b hb => ?_⟩
  split at hb
  · cases hb
  · rcases List.mem_append.1 hb with h1 | h1
    · exact h.own.row b h1
    · exact ⟨h.fresh b h1, h.own.under b h1⟩
theorem Mutd.of {ys : List Dt} {q' : Nat} {G : List Nat} (h : Arr w1 (DtR w1) ys v G) (hG : ∀ b ∈ G, w.heap.size ≤ b ∧ b < w1.heap.size) (hr : Rd w1 g q') (hq : q' ≤ p + 10) (hc : Chg [g] w w1) (h0 : 0 < ys.length) (hl : ys.length ≤ xs.length + 1) (hs : SmallW (m + 1) ys) : Mutd g p m xs w (.returned v) w1 :=
  ⟨ys, v, G, q', rfl, ⟨h0, hl, hs⟩, h, hG, hr, hq, hc⟩
theorem Cpy.done (h : Cpy g q xs v F w w1) (h0 : 0 < xs.length) (hs : SmallW m xs) (hq : q ≤ p + 10) : Mutd g p m xs w (.returned v) w1 := by
  obtain ⟨FF, ha, -, hF⟩ := h.arr
  obtain ⟨G, hG, ha'⟩ := ArrDtO.toR ha
  exact Mutd.of ha' (fun b hb => hF b (hG b hb)) h.rd hq h.chg h0 (Nat.le_succ _) (hs.mono (by omega))
/-- a data type in view -/
theorem Cpy.data {b off n cap d : Nat} (h : Cpy g q xs (.slice (some ⟨b, off, none⟩) n cap) F w w1) (h0 : 0 < xs.length) (hs : SmallW m xs) (hd : d < xs.length) :
    ∃ kA kcap F2, w1.cell? ⟨b, off + d * 2, none⟩ = some (.string xs[d].name) ∧ w1.cell? ⟨b, off + d * 2 + 1, none⟩ = some (.slice kA xs[d].ctors.length kcap) ∧ (∀ j, w1.frozen? ⟨b, j, none⟩ = false) ∧ w.heap.size ≤ b ∧ b < w1.heap.size ∧ xs[d].ctors.length ≤ kcap ∧ kcap ≤ 9223372036854775807 ∧
      DtO w1 xs[d] [.string xs[d].name, .slice kA xs[d].ctors.length kcap] F2 ∧ (∀ x ∈ F2, x ≠ b ∧ w.heap.size ≤ x ∧ x < w1.heap.size) ∧
      (∀ s : ByteArray, s.size ≤ 1000 → q ≤ p + 10 → Mutd g p m xs w (.returned (.slice (some ⟨b, off, none⟩) n cap)) (w1.setCell ⟨b, off + d * 2, none⟩ (.string s))) ∧
      (∀ E, q ≤ p + 10 → Mutd g p m xs w (.returned (.slice (some ⟨b, off, none⟩) n cap)) ((w1.setCell ⟨b, off + d * 2 + 1, none⟩ (.slice (some ⟨w1.heap.size, 0, none⟩) 0 0)).alloc (.cells #[] E))) := by
  obtain ⟨FF, ha, hfr, hF⟩ := h.arr
  obtain ⟨b', off', cap', kv, F2, e, hbF, hF2, hz, hn, hk, hkv, hns, H⟩ := put1 ha hfr hd
  cases e
  obtain ⟨kA, kcap, rfl, hc1, hc2⟩ := hkv.form
  have hb := hF _ hbF
  have hg := h.lt
  have hsd := hs _ (List.getElem_mem hd)
  refine ⟨kA, kcap, F2, hn, hk, hz, hb.1, hb.2, hc1, hc2, ⟨_, rfl, hkv, hns⟩, fun x hx => ⟨(hF2 x hx).2, hF x (hF2 x hx).1⟩, fun s hss hq => ?_, fun E hq => ?_⟩
  · obtain ⟨G, hG, hka⟩ := (hkv.mono (w' := w1.setCell ⟨b, off + d * 2, none⟩ (.string s)) (R' := KtO (w1.setCell ⟨b, off + d * 2, none⟩ (.string s))) (fun c hc => Below.heap_setCell _ _ _ _ (hF2 c hc).2) (fun y _ cs G hk h => KtO_mono _ _ y cs G hk h)).weaken fun _ _ _ h => KtO.toR h
    obtain ⟨F', hF', har⟩ := H _ s xs[d].ctors (.slice kA xs[d].ctors.length kcap) G (fun j hj => World.cell?_setCell_other _ _ _ _ (by intro e; injection e; omega)) (fun x hx hxb => Below.heap_setCell _ _ _ _ hxb)
      (World.cell?_setCell_same _ _ _ hn) ((World.cell?_setCell_other _ _ _ _ (by intro e; injection e; omega)).trans hk) hka (by omega)
    refine Mutd.of har (fun x hx => ?_) (h.rd.set (by omega)) hq (h.chg.set_new hb.1) (by rw [List.length_set]; exact h0) (by rw [List.length_set]; exact Nat.le_succ _) ((hs.mono (by omega)).set (by simpa using Nat.le_trans hsd.1 (by omega)) (fun c hc => Nat.le_trans (hsd.2 c hc) (by omega)))
    have hsz : (w1.setCell ⟨b, off + d * 2, none⟩ (.string s)).heap.size = w1.heap.size := by simp [World.setCell]
    rw [hsz]
    rcases hF' x hx with h1 | h1
    · exact hF x h1
    · exact hF x (hF2 x (hG x h1)).1
  · rw [← World.setCell_alloc_past _ _ _ _ hb.2]
    have hblk : ∀ x, x < w1.heap.size → x ≠ b → ((w1.alloc (.cells #[] E)).setCell ⟨b, off + d * 2 + 1, none⟩ (.slice (some ⟨w1.heap.size, 0, none⟩) 0 0)).heap[x]? = w1.heap[x]? := fun x hx hxb => (Below.heap_setCell _ _ _ _ hxb).trans (Below.heap_alloc _ _ _ hx)
    have hce : ∀ j, (w1.alloc (.cells #[] E)).cell? ⟨b, j, none⟩ = w1.cell? ⟨b, j, none⟩ := fun j => World.cell?_alloc_lt _ _ _ hb.2
    obtain ⟨F', hF', har⟩ := H _ xs[d].name [] (.slice (some ⟨w1.heap.size, 0, none⟩) 0 0) [] (fun j hj => (World.cell?_setCell_other _ _ _ _ (by intro e; injection e; omega)).trans (hce j)) (fun x hx hxb => hblk x (hF x hx).2 hxb)
      ((World.cell?_setCell_other _ _ _ _ (by intro e; injection e; omega)).trans ((hce _).trans hn)) (World.cell?_setCell_same _ _ _ ((hce _).trans hk)) ⟨_, _, rfl, by simp, by simp [maxLen], .inl ⟨rfl, rfl⟩⟩ hns
    have hsz : ((w1.alloc (.cells #[] E)).setCell ⟨b, off + d * 2 + 1, none⟩ (.slice (some ⟨w1.heap.size, 0, none⟩) 0 0)).heap.size = w1.heap.size + 1 := by simp [World.setCell]
    have hbel : Below w1.heap.size w1 (w1.alloc (.cells #[] E)) := (Below.refl _ _).alloc (Nat.le_refl _) _
    refine Mutd.of har (fun x hx => ?_) ((h.rd.below hbel).set (by omega)) hq ((h.chg.step hbel).set_new hb.1) (by rw [List.length_set]; exact h0) (by rw [List.length_set]; exact Nat.le_succ _) ((hs.mono (by omega)).set (by simp) (fun c hc => by cases hc))
    rw [hsz]
    rcases hF' x hx with h1 | h1
    · have := hF x h1; omega
    · cases h1
/-- the first constructor in view -/
theorem Cpy.ctor {b off n cap d : Nat} (h : Cpy g q xs (.slice (some ⟨b, off, none⟩) n cap) F w w1) (h0 : 0 < xs.length) (hs : SmallW m xs) (hd : d < xs.length) (hk : 0 < xs[d].ctors.length) :
    ∃ b2 off2 cap2 aA acap, w1.cell? ⟨b, off + d * 2 + 1, none⟩ = some (.slice (some ⟨b2, off2, none⟩) xs[d].ctors.length cap2) ∧ b ≠ b2 ∧ b ∉ [g] ∧ b2 ∉ [g] ∧ b < w1.heap.size ∧ b2 < w1.heap.size ∧ (∀ j, w1.frozen? ⟨b2, j, none⟩ = false) ∧
      w1.cell? ⟨b2, off2, none⟩ = some (.string xs[d].ctors[0].name) ∧ w1.cell? ⟨b2, off2 + 1, none⟩ = some (.slice aA xs[d].ctors[0].args.length acap) ∧ w1.cell? ⟨b2, off2 + 2, none⟩ = some (.int .i64 xs[d].ctors[0].idx) ∧
      Own w1 0 37 2 TyR xs[d].ctors[0].args (.slice aA xs[d].ctors[0].args.length acap) [] ∧ (∀ x ∈ rowOf (.slice aA xs[d].ctors[0].args.length acap), x ∉ [g] ∧ x ≠ b ∧ x ≠ b2 ∧ x < w1.heap.size) ∧ xs[d].ctors[0].args.length ≤ m ∧
      (∀ (w2 : World) (q' : Nat) (s : ByteArray), Rd w2 g q' → Chg [g] w1 w2 → q' ≤ p + 10 → s.size ≤ 1000 → Mutd g p m xs w (.returned (.slice (some ⟨b, off, none⟩) n cap)) (w2.setCell ⟨b2, off2, none⟩ (.string s))) ∧
      (∀ (w2 : World) (q' : Nat) (i : Int), Rd w2 g q' → Chg [g] w1 w2 → q' ≤ p + 10 → Mutd g p m xs w (.returned (.slice (some ⟨b, off, none⟩) n cap)) (w2.setCell ⟨b2, off2 + 2, none⟩ (.int .i64 i))) ∧
      (∀ (w2 : World) (q' : Nat) (y : Ty) (g' c' : Nat) (w3 : World) (o : Obj), Rd w2 g q' → Chg [g] w1 w2 → q' ≤ p + 10 → Own w3 0 37 2 TyR (xs[d].ctors[0].args ++ [y]) (.slice (some ⟨g', 0, none⟩) (xs[d].ctors[0].args.length + 1) c') [] →
        (w2.alloc o).grownBy w3 (Value.slice aA xs[d].ctors[0].args.length acap).ownBlock → ((Value.slice aA xs[d].ctors[0].args.length acap).ownBlock = some g' ∨ g' = w2.heap.size + 1) →
        Mutd g p m xs w (.returned (.slice (some ⟨b, off, none⟩) n cap)) (w3.setCell ⟨b2, off2 + 1, none⟩ (.slice (some ⟨g', 0, none⟩) (xs[d].ctors[0].args.length + 1) c'))) := by
  obtain ⟨FF, ha, hfr, hF⟩ := h.arr
  obtain ⟨b', off', cap', b2, off2, cap2, av, e, hbF, hb2F, hbb, hz, hz2, hkc, c0, c1, c2, hown, hrow, hns, H⟩ := put2 ha hfr hd hk
  cases e
  obtain ⟨aA, acap, rfl, -, -⟩ := hown.form
  have hb := hF _ hbF
  have hb2 := hF _ hb2F
  have hg := h.lt
  have hsd := hs _ (List.getElem_mem hd)
  have hsa := hsd.2 _ (List.getElem_mem hk)
  have hFg : ∀ x ∈ FF, x ∉ [g] := fun x hx => by have := (hF x hx).1; rw [List.mem_singleton]; omega
  have small : ∀ c : Kt, c.args.length ≤ m + 1 → SmallW (m + 1) (xs.set d ⟨xs[d].name, xs[d].ctors.set 0 c⟩) := fun c hc => (hs.mono (by omega)).set (by simp only [List.length_set]; omega) (fun k hk' => by
    rcases List.mem_or_eq_of_mem_set hk' with h1 | rfl
    · exact Nat.le_trans (hsd.2 _ h1) (by omega)
    · exact hc)
  refine ⟨b2, off2, cap2, aA, acap, hkc, fun e => hbb e.symm, hFg _ hbF, hFg _ hb2F, hb.2, hb2.2, hz2, c0, c1, c2, hown, fun x hx => ⟨hFg _ (hrow x hx).1, (hrow x hx).2.1, (hrow x hx).2.2, (hF _ (hrow x hx).1).2⟩, hsa, fun w2 q' s hr hc hq hss => ?_, fun w2 q' i hr hc hq => ?_, fun w2 q' y g' c' w3 o hr hc hq ho3 hg3 hat => ?_⟩
  · have hcl : ∀ j, w2.cell? ⟨b2, j, none⟩ = w1.cell? ⟨b2, j, none⟩ := fun j => hc.cell hb2.2 (hFg _ hb2F)
    have hkp : ∀ x ∈ FF, x ≠ b2 → (w2.setCell ⟨b2, off2, none⟩ (.string s)).heap[x]? = w1.heap[x]? := fun x hx hxb => (Below.heap_setCell _ _ _ _ hxb).trans (hc.block x (hF x hx).2 (hFg x hx))
    have ho2 := (hown.mono0 (w' := w2.setCell ⟨b2, off2, none⟩ (.string s)) (fun x cs G (h : TyR w1 x cs G) => (h : TyR _ x cs G)) (fun x hx => hkp x (hrow x hx).1 (hrow x hx).2.2)).arr
    obtain ⟨F', hF', har⟩ := H (w2.setCell ⟨b2, off2, none⟩ (.string s)) s _ xs[d].ctors[0].idx _ _ (fun j hj => (World.cell?_setCell_other _ _ _ _ (by intro e; injection e; omega)).trans (hcl j)) (fun x hx hxb _ => hkp x hx hxb)
      (World.cell?_setCell_same _ _ _ ((hcl _).trans c0)) ((World.cell?_setCell_other _ _ _ _ (by intro e; injection e; omega)).trans ((hcl _).trans c1)) ((World.cell?_setCell_other _ _ _ _ (by intro e; injection e; omega)).trans ((hcl _).trans c2)) ho2 (by omega)
    have hsz : (w2.setCell ⟨b2, off2, none⟩ (.string s)).heap.size = w2.heap.size := by simp [World.setCell]
    refine Mutd.of har (fun x hx => ?_) (hr.set (by omega)) hq ((h.chg.trans hc).set_new hb2.1) (by rw [List.length_set]; exact h0) (by rw [List.length_set]; exact Nat.le_succ _) (small _ (by simp only; omega))
    rw [hsz]
    have hz2 := hc.size
    rcases hF' x hx with h1 | h1
    · have := hF x h1; omega
    · split at h1
      · cases h1
      · rw [List.append_nil] at h1
        have := hF x (hrow x h1).1; omega
  · have hcl : ∀ j, w2.cell? ⟨b2, j, none⟩ = w1.cell? ⟨b2, j, none⟩ := fun j => hc.cell hb2.2 (hFg _ hb2F)
    have hkp : ∀ x ∈ FF, x ≠ b2 → (w2.setCell ⟨b2, off2 + 2, none⟩ (.int .i64 i)).heap[x]? = w1.heap[x]? := fun x hx hxb => (Below.heap_setCell _ _ _ _ hxb).trans (hc.block x (hF x hx).2 (hFg x hx))
    have ho2 := (hown.mono0 (w' := w2.setCell ⟨b2, off2 + 2, none⟩ (.int .i64 i)) (fun x cs G (h : TyR w1 x cs G) => (h : TyR _ x cs G)) (fun x hx => hkp x (hrow x hx).1 (hrow x hx).2.2)).arr
    obtain ⟨F', hF', har⟩ := H (w2.setCell ⟨b2, off2 + 2, none⟩ (.int .i64 i)) xs[d].ctors[0].name _ i _ _ (fun j hj => (World.cell?_setCell_other _ _ _ _ (by intro e; injection e; omega)).trans (hcl j)) (fun x hx hxb _ => hkp x hx hxb)
      ((World.cell?_setCell_other _ _ _ _ (by intro e; injection e; omega)).trans ((hcl _).trans c0)) ((World.cell?_setCell_other _ _ _ _ (by intro e; injection e; omega)).trans ((hcl _).trans c1)) (World.cell?_setCell_same _ _ _ ((hcl _).trans c2)) ho2 hns
    have hsz : (w2.setCell ⟨b2, off2 + 2, none⟩ (.int .i64 i)).heap.size = w2.heap.size := by simp [World.setCell]
    refine Mutd.of har (fun x hx => ?_) (hr.set (by omega)) hq ((h.chg.trans hc).set_new hb2.1) (by rw [List.length_set]; exact h0) (by rw [List.length_set]; exact Nat.le_succ _) (small _ (by simp only; omega))
    rw [hsz]
    have hz2 := hc.size
    rcases hF' x hx with h1 | h1
    · have := hF x h1; omega
    · split at h1
      · cases h1
      · rw [List.append_nil] at h1
        have := hF x (hrow x h1).1; omega
  · have hrw : ∀ x, (Value.slice aA xs[d].ctors[0].args.length acap).ownBlock = some x → w.heap.size ≤ x ∧ x ≠ b2 := fun x hx => ⟨(hF x (hrow x (mem_rowOf.2 hx)).1).1, (hrow x (mem_rowOf.2 hx)).2.2⟩
    have hwz : w.heap.size ≤ w1.heap.size := h.chg.size
    have hw2 : w1.heap.size ≤ w2.heap.size := hc.size
    have hB3 : Below w.heap.size w2 w3 := ((Below.refl w.heap.size w2).alloc (by omega) o).grown hg3 (by simp; omega) (fun x hx => (hrw x hx).1)
    have hblk : ∀ x, x < w2.heap.size → x ∉ rowOf (Value.slice aA xs[d].ctors[0].args.length acap) → w3.heap[x]? = w2.heap[x]? := fun x hx hxr => (hg3.block x (by simp; omega) (fun e => hxr (mem_rowOf.2 e.symm))).trans (Below.heap_alloc _ _ _ hx)
    have hb2r : b2 ∉ rowOf (Value.slice aA xs[d].ctors[0].args.length acap) := fun hx => (hrow _ hx).2.2 rfl
    have hb3 : w3.heap[b2]? = w1.heap[b2]? := (hblk b2 (by omega) hb2r).trans (hc.block _ hb2.2 (hFg _ hb2F))
    have hcl : ∀ j, w3.cell? ⟨b2, j, none⟩ = w1.cell? ⟨b2, j, none⟩ := fun j => World.cell?_of_block (a := ⟨b2, j, none⟩) hb3
    have hgn : g' ≠ b2 := by
      rcases hat with h1 | h1
      · exact (hrw _ h1).2
      · omega
    have ho2 := (Own.set (j := off2 + 1) (b := b2) TyR_mono' ho3 (.slice (some ⟨g', 0, none⟩) (xs[d].ctors[0].args.length + 1) c') (fun h => hgn (by rw [rowOf_some, List.mem_singleton] at h; exact h.symm)) (fun h => by cases h))
    have hro2 := ho2.row
    have har2 := ho2.arr
    obtain ⟨F', hF', har⟩ := H (w3.setCell ⟨b2, off2 + 1, none⟩ (.slice (some ⟨g', 0, none⟩) (xs[d].ctors[0].args.length + 1) c')) xs[d].ctors[0].name _ xs[d].ctors[0].idx _ _ (fun j hj => (World.cell?_setCell_other _ _ _ _ (by intro e; injection e; omega)).trans (hcl j))
      (fun x hx hxb hxr => (Below.heap_setCell _ _ _ _ hxb).trans ((hblk x (by have := hF x hx; omega) hxr).trans (hc.block x (hF x hx).2 (hFg x hx))))
      ((World.cell?_setCell_other _ _ _ _ (by intro e; injection e; omega)).trans ((hcl _).trans c0)) (World.cell?_setCell_same _ _ _ ((hcl _).trans c1)) ((World.cell?_setCell_other _ _ _ _ (by intro e; injection e; omega)).trans ((hcl _).trans c2)) har2 hns
    have hsz : (w3.setCell ⟨b2, off2 + 1, none⟩ (.slice (some ⟨g', 0, none⟩) (xs[d].ctors[0].args.length + 1) c')).heap.size = w3.heap.size := by simp [World.setCell]
    have hz3 : w2.heap.size ≤ w3.heap.size := hB3.size
    have hgw : w.heap.size ≤ g' := by
      rcases hat with h1 | h1
      · exact (hrw _ h1).1
      · omega
    refine Mutd.of har (fun x hx => ?_) ((hr.low hB3 hg).set (by omega)) hq (((h.chg.trans hc).under hB3).set_new hb2.1) (by rw [List.length_set]; exact h0) (by rw [List.length_set]; exact Nat.le_succ _) (small _ (by simp only [List.length_append, List.length_cons, List.length_nil]; omega))
    rcases hF' x hx with h1 | h1
    · rw [hsz]; have := hF x h1; omega
    · split at h1
      · cases h1
      · rw [List.append_nil] at h1
        have h2 := hro2 x h1
        rw [rowOf_some, List.mem_singleton] at h1
        exact ⟨by omega, h2.2⟩
/-- the last case: a data type once more -/
theorem Cpy.twice {d : Nat} {o : Obj} {vB : Option Nat} {w3 : World} {v3 : Value} {F2 : List Nat} (h : Cpy g q xs v F w w1) (h0 : 0 < xs.length) (hs : SmallW m xs) (hd : d < xs.length) (hF2 : ∀ x ∈ F2, w.heap.size ≤ x) (hv : vB = v.ownBlock)
    (ho : Own w3 w.heap.size 112 2 DtO (xs ++ [xs[d]]) v3 (F ++ F2)) (hg : (w1.alloc o).grownBy w3 vB) (hq : q ≤ p + 10) : Mutd g p m xs w (.returned v3) w3 := by
  subst hv
  have hro := h.own.row
  have hwz : w.heap.size ≤ w1.heap.size := h.chg.size
  have hB3 : Below w.heap.size w1 w3 := ((Below.refl w.heap.size w1).alloc hwz o).grown hg (by simp; omega) (fun x hx => (hro x (mem_rowOf.2 hx)).1)
  have hr3 := ho.row
  have hu3 := ho.under
  obtain ⟨G, hG, ha'⟩ := ArrDtO.toR ho.arr
  refine Mutd.of ha' (fun x hx => ?_) (h.rd.low hB3 h.lt) hq (h.chg.under hB3) (by simp) (by simp) (fun x hx => ?_)
  · have h1 := hG x hx
    split at h1
    · cases h1
    · rcases List.mem_append.1 h1 with h1 | h1
      · exact hr3 x h1
      · refine ⟨?_, hu3 x h1⟩
        rcases List.mem_append.1 h1 with h1 | h1
        · exact h.fresh x h1
        · exact hF2 x h1
  · rcases List.mem_append.1 hx with h1 | h1
    · exact (hs.mono (by omega : m ≤ m + 1)) x h1
    · rw [List.mem_singleton] at h1
      subst h1
      exact (hs.mono (by omega : m ≤ m + 1)) _ (List.getElem_mem hd)
end
end Go.Proofs.Ytbffkgfhcmigaaa

namespace Go.Proofs.Ytbffkgfhcmigaaa
open Go.RowKit

def dtk (xs : List Dt) (d : Nat) : List Dt := xs.take d
def ktk (cs : List Kt) (k : Nat) : List Kt := cs.take k
theorem dtk_len (xs : List Dt) (d : Nat) : (dtk xs d).length ≤ d := by unfold dtk; rw [List.length_take]; omega
theorem ktk_len (cs : List Kt) (k : Nat) : (ktk cs k).length ≤ k := by unfold ktk; rw [List.length_take]; omega
theorem dtk_succ (xs : List Dt) (d : Nat) (h : d < xs.length) : dtk xs (d + 1) = dtk xs d ++ [xs[d]] := take_snoc' xs d h
theorem ktk_succ (cs : List Kt) (k : Nat) (h : k < cs.length) : ktk cs (k + 1) = ktk cs k ++ [cs[k]] := take_snoc' cs k h
theorem dtk_all (xs : List Dt) {d : Nat} (h : xs.length ≤ d) : dtk xs d = xs := List.take_of_length_le h
theorem ktk_all (cs : List Kt) {k : Nat} (h : cs.length ≤ k) : ktk cs k = cs := List.take_of_length_le h
theorem Own.free_row {α : Type} {w : World} {B k : Nat} {E : TypeId} {R : World → α → List Value → List Nat → Prop} {xs : List α} {v : Value} {F : List Nat} (h : Own w B E k R xs v F) : Free w (rowOf v) := by
  obtain ⟨cs, h1, -⟩ := h
  rcases h1.2 with ⟨rfl, -⟩ | ⟨g, cap, cur, rfl, hb, hg, -⟩
  · exact Free.nil _
  · rw [rowOf_some]
    exact ⟨by simp, fun b hb' i => by rw [List.mem_singleton] at hb'; subst hb'; simp [World.frozen?, hg]⟩
theorem TyR_one (w : World) (x : Ty) (cs : List Value) (G : List Nat) (h : TyR w x cs G) : ∀ u ∈ cs, u.oneCell' = true := by
  obtain ⟨rfl, -⟩ := h
  simp [Value.oneCell']
theorem wpList_append_run {P : Program} {w : World} {ops : Array Oper} {rest : List Oper} {o : Oper} {a : Act} {Q : Exit → Act → World → Prop} (hgd : o.guard = none) (s x : Operand) (t : TypeId)
    (ho : o.op = .call { callee := .builtin .append, args := #[s, x], argTypes := #[t, t] }) {sv xv v' : Value} {w' : World} (hs : a.eval s = sv) (hx : a.eval x = xv)
    (hr : (Builtin.append_ #[t, t] o.type #[sv, xv]).run P w = .ok v' w') (h : wpList P ops Q rest (a.put o.dst v') w') : wpList P ops Q (o :: rest) a w := by
  refine wpList_plain hgd fun K hK => ?_
  unfold Oper.wp execOp
  simp only [ho, resolve, invoke, builtin, Sem.run_bind, Sem.run_pure, Result.andThen_ok, List.map_toArray, List.map_cons, List.map_nil, hs, hx, hr]
  exact hK _ _ h
set_option maxRecDepth 100000 in
set_option maxHeartbeats 6400000 in
theorem spec_l1Copy (xs : List Dt) (w : World) (v : Value) (F : List Nat) (hx : Arr w (DtR w) xs v F) (hf : Under w.heap.size F) (hl : xs.length ≤ 100) (hsm : SmallW 100 xs) :
    Calls Try.prog 159 #[v] w fun e w' => ∃ v' F', e = .returned v' ∧ Below w.heap.size w w' ∧ Own w' w.heap.size 112 2 DtO xs v' F' ∧ Free w' F' ∧ (∀ b ∈ F', w.heap.size + 1 ≤ b) := by
  obtain ⟨A, cap, rfl, hc1, hc2⟩ := hx.form
  obtain ⟨i0, hi, hz0, hz1, hz2⟩ := info_parts info_KtE
  have HI := Lib.hid hi
  have HZ0 := Lib.hid hz0
  have HZ1 := Lib.hid hz1
  have HZ2 := Lib.hid hz2
  clear hi hz0 hz1 hz2
  obtain ⟨j0, hj, hj0, hj1, hj2⟩ := info_parts info_tyE
  have HJ := Lib.hid hj
  have HJ0 := Lib.hid hj0
  have HJ1 := Lib.hid hj1
  have HJ2 := Lib.hid hj2
  clear hj hj0 hj1 hj2
  obtain ⟨m0, hm, hm0, hm1, hm2⟩ := info_parts info_DtE
  have HM := Lib.hid hm
  have HM0 := Lib.hid hm0
  have HM1 := Lib.hid hm1
  have HM2 := Lib.hid hm2
  clear hm hm0 hm1 hm2
  have HSM := Lib.hid hsm
  have HX := Lib.hid hx
  have HF := Lib.hid hf
  clear hx hf
  clear hsm
  go_enter Try.func159, Try.ntmps159
  go_wp2
  have hB1 : Below w.heap.size w (w.alloc (.cells #[] 112)) := (Below.refl _ _).alloc (Nat.le_refl _) _
  have HO1 : Hid (Own (w.alloc (.cells #[] 112)) w.heap.size 112 2 DtO (dtk xs 0) (.slice (some ⟨w.heap.size, 0, none⟩) 0 0) []) := Own.made w w.heap.size 112 2 DtO #[] 0 (Nat.le_refl _) (by simp [maxLen]) rfl
  have hw1 : (w.alloc (.cells #[] 112)).heap.size = w.heap.size + 1 := World.size_alloc _ _
  obtain ⟨w1, hw1e⟩ : ∃ w1, w1 = w.alloc (.cells #[] 112) := ⟨_, rfl⟩
  rw [← hw1e] at hB1 HO1 hw1 ⊢
  clear hw1e
  go_loopw [3, 4] (fun ov dv wr => ∃ d : Nat, ∃ Fo : List Nat, d ≤ xs.length ∧ dv = .int .i64 d ∧ Hid (Own wr w.heap.size 112 2 DtO (dtk xs d) ov Fo) ∧ Hid (Free wr Fo) ∧ Hid (∀ b ∈ Fo, w1.heap.size ≤ b) ∧ Hid (Chg [w.heap.size] w1 wr) ∧ Below w.heap.size w wr ∧ w1.heap.size ≤ wr.heap.size) (fun _ dv _ => xs.length - (intOf dv).toNat)
  case atStart => exact ⟨0, [], Nat.zero_le _, rfl, HO1, Free.nil _, (fun b hb => by cases hb), Chg.refl _ _, hB1, Nat.le_refl _⟩
  case round =>
    clear hB1 HO1
    obtain ⟨d, Fo, hd, rfl, HO, HFr, HFh, HC, hB, hwr⟩ := hrel
    by_cases hdl : d < xs.length
    · obtain ⟨b, off, rfl⟩ := HX.out.ptr (by omega)
      have g1 : (0 : Int) ≤ (d : Int) := by omega
      have g2 : (d : Int) < (xs.length : Int) := by omega
      obtain ⟨A1, cap1, G1, hbw, c0w, c1w, HK, HG, hns, hn1, hn2⟩ := ArrDt.at HX.out HF.out (Below.refl _ _) d hdl
      have c0 := (hB.cell (p := ⟨b, off + d * 2, none⟩) hbw).trans c0w
      have hb : b < wr.heap.size := Nat.lt_of_lt_of_le hbw hB.size
      have hcl : xs[d].ctors.length ≤ 100 := (HSM.out _ (List.getElem_mem hdl)).1
      have hdk := dtk_len xs d
      have HB8 : Hid (∀ b ∈ rowOf u3 ++ Fo, b < wr.heap.size) := fun b hb => by
        rcases List.mem_append.1 hb with h | h
        · exact (HO.out.row b h).2
        · exact HO.out.under b h
      obtain ⟨w8, hw8⟩ : ∃ w8, w8 = wr := ⟨_, rfl⟩
      rw [← hw8] at HO HFr HC hB hwr c0 hb HB8 ⊢
      clear hw8
      have hw9 : Below w8.heap.size w8 (w8.alloc (.cells #[.string xs[d].name, .slice none 0 0] 112)) := (Below.refl _ _).alloc (Nat.le_refl _) _
      have HO9 : Hid (Own (w8.alloc (.cells #[.string xs[d].name, .slice none 0 0] 112)) w.heap.size 112 2 DtO (dtk xs d) u3 Fo) := HO.out.below (fun x cs G hk h => DtO_mono _ _ x cs G hk h) hw9
      have HFr9 : Hid (Free (w8.alloc (.cells #[.string xs[d].name, .slice none 0 0] 112)) Fo) := HFr.out.kept (.of_below hw9 HO.out.under)
      have HC9 : Hid (Chg [w.heap.size] w1 (w8.alloc (.cells #[.string xs[d].name, .slice none 0 0] 112))) := HC.out.step hw9
      have KD9 : Hid (Blk (w8.alloc (.cells #[.string xs[d].name, .slice none 0 0] 112)) w8.heap.size 112 #[.string xs[d].name, .slice none 0 0]) := Blk.new _ _ _
      have hB9 := hB.trans (hw9.mono hB.size)
      have hw9s : (w8.alloc (.cells #[.string xs[d].name, .slice none 0 0] 112)).heap.size = w8.heap.size + 1 := World.size_alloc _ _
      have hHD8 : w.heap.size ≤ w8.heap.size := hB.size
      have HR : Hid (∀ g ∈ rowOf u3, g = w.heap.size ∨ w1.heap.size ≤ g) := fun g hg => by have := (HO.out.row g hg).1; omega
      go_wp2
      obtain ⟨w9, hw9e⟩ : ∃ w9, w9 = w8.alloc (.cells #[.string xs[d].name, .slice none 0 0] 112) := ⟨_, rfl⟩
      rw [← hw9e] at HO9 HFr9 HC9 KD9 hB9 hw9s ⊢
      clear hw9 hw9e HO HFr HC hB c0 hb
      go_loopw [6] (fun kv' wr => ∃ k : Nat, ∃ kv : Value, ∃ Fk : List Nat, k ≤ xs[d].ctors.length ∧ kv' = .int .i64 k ∧ Hid (Blk wr w8.heap.size 112 #[.string xs[d].name, kv]) ∧ Hid (Own wr (w8.heap.size + 1) 164 3 KtO (ktk xs[d].ctors k) kv Fk) ∧ Hid (Free wr Fk) ∧ Hid (∀ b ∈ Fk, w8.heap.size + 1 ≤ b) ∧ Hid (Chg [w8.heap.size] w9 wr) ∧ Below w.heap.size w wr ∧ w9.heap.size ≤ wr.heap.size) (fun kv' _ => xs[d].ctors.length - (intOf kv').toNat)
      case atStart => exact ⟨0, _, [], Nat.zero_le _, rfl, KD9, (show Own _ _ _ _ _ (ktk xs[d].ctors 0) _ _ from Own.nil _ _ _ _ _), Free.nil _, (fun b hb => by cases hb), Chg.refl _ _, hB9, Nat.le_refl _⟩
      case round =>
        clear hB9 KD9
        obtain ⟨k, kv, Fk, hkl, rfl, KD, HOk, HFk, HFkh, HCk, hB, hw9r⟩ := hrel
        obtain ⟨kA, kcap, hkv, hkc1, hkc2⟩ := HOk.out.form
        subst hkv
        have z0 : wr.cell? ⟨w8.heap.size, 0, none⟩ = some (.string xs[d].name) := (KD.out.cell 0).trans (by simp)
        have z1 : wr.cell? ⟨w8.heap.size, 1, none⟩ = some (.slice kA (ktk xs[d].ctors k).length kcap) := (KD.out.cell 1).trans (by simp)
        have zf1 := KD.out.frozen 1
        have hkz := KD.out.lt
        have c1 := (hB.cell (p := ⟨b, off + d * 2 + 1, none⟩) hbw).trans c1w
        have hbr : b < wr.heap.size := Nat.lt_of_lt_of_le hbw hB.size
        by_cases hlt : k < xs[d].ctors.length
        · obtain ⟨b2, off2, rfl⟩ := HK.out.ptr (by omega)
          obtain ⟨A3, cap3, G3, hb3, k0, k1, k2, HKT, HG3, hks, hn3, hn4⟩ := ArrKt.rep HK.out HG.out hB k hlt
          have g3 : (0 : Int) ≤ (k : Int) := by omega
          have g4 : (k : Int) < (xs[d].ctors.length : Int) := by omega
          have hal : xs[d].ctors[k].args.length ≤ 100 := (HSM.out _ (List.getElem_mem hdl)).2 _ (List.getElem_mem hlt)
          have hkk := ktk_len xs[d].ctors k
          have harg : Arr w (TyR w) xs[d].ctors[k].args (.slice A3 xs[d].ctors[k].args.length cap3) G3 := by
            obtain ⟨kv, hkv, ha, -⟩ := HKT.out
            have : kv = .slice A3 xs[d].ctors[k].args.length cap3 := by simpa using (List.cons.inj (List.cons.inj hkv).2).1.symm
            rw [← this]; exact ha
          have ha1 : Below wr.heap.size wr (wr.alloc (.cells #[.string xs[d].ctors[k].name, .slice A3 xs[d].ctors[k].args.length cap3, .int .i64 xs[d].ctors[k].idx] 164)) := (Below.refl _ _).alloc (Nat.le_refl _) _
          have ha2 : Below wr.heap.size wr ((wr.alloc (.cells #[.string xs[d].ctors[k].name, .slice A3 xs[d].ctors[k].args.length cap3, .int .i64 xs[d].ctors[k].idx] 164)).alloc (.cells #[] 37)) := ha1.alloc ha1.size _
          have hos : Own ((wr.alloc (.cells #[.string xs[d].ctors[k].name, .slice A3 xs[d].ctors[k].args.length cap3, .int .i64 xs[d].ctors[k].idx] 164)).alloc (.cells #[] 37)) 0 37 2 TyR ([] : List Ty) (.slice (some ⟨wr.heap.size + 1, 0, none⟩) 0 0) [] := by
            have h := Own.made (wr.alloc (.cells #[.string xs[d].ctors[k].name, .slice A3 xs[d].ctors[k].args.length cap3, .int .i64 xs[d].ctors[k].idx] 164)) 0 37 2 TyR #[] 0 (Nat.zero_le _) (by simp [maxLen]) rfl
            rwa [World.size_alloc] at h
          have hKC : Blk ((wr.alloc (.cells #[.string xs[d].ctors[k].name, .slice A3 xs[d].ctors[k].args.length cap3, .int .i64 xs[d].ctors[k].idx] 164)).alloc (.cells #[] 37)) wr.heap.size 164 #[.string xs[d].ctors[k].name, .slice A3 xs[d].ctors[k].args.length cap3, .int .i64 xs[d].ctors[k].idx] := (Blk.new wr _ _).same (Below.heap_alloc _ _ _ (by simp))
          have hsz2 : ((wr.alloc (.cells #[.string xs[d].ctors[k].name, .slice A3 xs[d].ctors[k].args.length cap3, .int .i64 xs[d].ctors[k].idx] 164)).alloc (.cells #[] 37)).heap.size = wr.heap.size + 2 := by simp
          have hAB := ArrTy.below harg (hB.trans (ha2.mono hB.size)) HG3.out
          obtain ⟨v', wc, hrun, hoc, hgc, hrc⟩ := run_append_whole (P := Try.prog) (R := TyR ((wr.alloc (.cells #[.string xs[d].ctors[k].name, .slice A3 xs[d].ctors[k].args.length cap3, .int .i64 xs[d].ctors[k].idx] 164)).alloc (.cells #[] 37))) (RR := TyR) (B := 0) (k := 2) (E := 37) 94 94 j0 _ 16 Try.underlying94 HJ.out HJ0.out HJ1.out HJ2.out rfl (by decide) (fun x cs G h => TyR_len x cs G h) (fun x cs G h => TyR_one _ x cs G h) (fun w' x cs G h => ⟨h.1, rfl⟩) hos hAB (by omega) (by omega) (Nat.zero_le _)
          obtain ⟨vA, vcap, hv', hvc1, hvc2⟩ := hoc.form
          subst hv'
          generalize hwb : ((wr.alloc (.cells #[.string xs[d].ctors[k].name, .slice A3 xs[d].ctors[k].args.length cap3, .int .i64 xs[d].ctors[k].idx] 164)).alloc (.cells #[] 37)) = wb at *
          have kb1 : wb.cell? ⟨wr.heap.size, 1, none⟩ = some (.slice A3 xs[d].ctors[k].args.length cap3) := (hKC.cell 1).trans (by simp)
          have hKCc : Blk wc wr.heap.size 164 #[.string xs[d].ctors[k].name, .slice A3 xs[d].ctors[k].args.length cap3, .int .i64 xs[d].ctors[k].idx] := hKC.same (hgc.block _ (by omega) (fun e => by injection e; omega))
          have hbc : Below wr.heap.size wr wc := ha2.grown hgc (by omega) (fun g hg => by injection hg; omega)
          have hcz : wb.heap.size ≤ wc.heap.size := hgc.size
          have hrw : ∀ x ∈ rowOf (.slice vA xs[d].ctors[k].args.length vcap), wr.heap.size + 1 ≤ x := fun x hx => by rcases hrc x hx with h | h <;> omega
          have hx1 : wc.cell? ⟨w8.heap.size, 1, none⟩ = some (.slice kA (ktk xs[d].ctors k).length kcap) := (hbc.cell hkz).trans z1
          have hxf : wc.frozen? ⟨w8.heap.size, 1, none⟩ = false := (hbc.frozen hkz).trans zf1
          have y0 : wc.cell? ⟨wr.heap.size, 0, none⟩ = some (.string xs[d].ctors[k].name) := (hKCc.cell 0).trans (by simp)
          have y1 : wc.cell? ⟨wr.heap.size, 1, none⟩ = some (.slice A3 xs[d].ctors[k].args.length cap3) := (hKCc.cell 1).trans (by simp)
          have y2 : wc.cell? ⟨wr.heap.size, 2, none⟩ = some (.int .i64 xs[d].ctors[k].idx) := (hKCc.cell 2).trans (by simp)
          have yf1 := hKCc.frozen 1
          have hne : wr.heap.size ≠ w8.heap.size := by omega
          have hcs : wr.heap.size < wc.heap.size := hKCc.lt
          have hBu : Hid (Below wr.heap.size wr (wc.setCell ⟨wr.heap.size, 1, none⟩ (.slice vA xs[d].ctors[k].args.length vcap))) := hbc.setCell (Nat.le_refl _) _
          have hod := Own.set (j := 1) (b := wr.heap.size) TyR_mono' hoc (.slice vA xs[d].ctors[k].args.length vcap) (fun h => by have := hrw _ h; omega) (fun h => by cases h)
          have hrd := hod.row
          have HKO : Hid (KtO (wc.setCell ⟨wr.heap.size, 1, none⟩ (.slice vA xs[d].ctors[k].args.length vcap)) xs[d].ctors[k] [.string xs[d].ctors[k].name, .slice vA xs[d].ctors[k].args.length vcap, .int .i64 xs[d].ctors[k].idx] (rowOf (.slice vA xs[d].ctors[k].args.length vcap))) := ⟨_, rfl, hod, rfl, hks⟩
          have HfrA := Lib.hid hod.free_row
          have HfsA : Hid (∀ b ∈ rowOf (.slice vA xs[d].ctors[k].args.length vcap), wr.heap.size ≤ b ∧ b < (wc.setCell ⟨wr.heap.size, 1, none⟩ (.slice vA xs[d].ctors[k].args.length vcap)).heap.size) := fun b hb => ⟨by have := hrw b hb; omega, (hrd b hb).2⟩
          have HOA : Hid (Own (wc.setCell ⟨wr.heap.size, 1, none⟩ (.slice vA xs[d].ctors[k].args.length vcap)) (w8.heap.size + 1) 164 3 KtO (ktk xs[d].ctors k) (.slice kA (ktk xs[d].ctors k).length kcap) Fk) := HOk.out.below (fun x cs G hk h => KtO_mono _ _ x cs G hk h) hBu.out
          have HF2 := Lib.hid (ktk_succ xs[d].ctors k hlt)
          have HRUN := Lib.hid hrun
          have hbs2 : w8.heap.size + 1 ≤ (wc.setCell ⟨wr.heap.size, 1, none⟩ (.slice vA xs[d].ctors[k].args.length vcap)).heap.size := by have := hBu.out.size; omega
          clear hrun hod hrd hrw hrc hoc hgc hbc hKC hKCc ha1 ha2 hos hAB harg
          go_wp2_with (at_builtin; refine Halt.mk ?_)
          try rw [hwb]
          refine Halt.of (wpList_append_run rfl _ _ 94 rfl (by rfl) (by rfl) HRUN.out ?_)
          go_wp2_with (at_builtin; refine Halt.mk ?_)
          refine Halt.of (wpList_push1 (P := Try.prog) rfl _ _ 110 rfl i0 _ 48 Try.underlying110 HI.out HZ0.out HZ1.out HZ2.out rfl (by decide) KtO_len KtO_mono (by rfl) HOA.out xs[d].ctors[k] 164 [.string xs[d].ctors[k].name, .slice vA xs[d].ctors[k].args.length vcap, .int .i64 xs[d].ctors[k].idx] (rowOf (.slice vA xs[d].ctors[k].args.length vcap)) wc.heap.size (by rfl) (by simp [World.setCell]) (by simp [Value.oneCell']) HKO.out (fun b hb => (HfsA.out b hb).2) (fun g hg hG => Nat.lt_irrefl _ (Nat.lt_of_lt_of_le (HOk.out.row g hg).2 (HfsA.out g hG).1)) (by unfold maxLen; omega) (by omega) hbs2 ?_)
          intro g cp w7 hown7 hgr7 hat7
          have z71 : w7.cell? ⟨w8.heap.size, 1, none⟩ = some (.slice kA (ktk xs[d].ctors k).length kcap) := (World.cell?_of_block (a := ⟨w8.heap.size, 1, none⟩) (grow_old HOk.out hBu.out hgr7 (Nat.lt_succ_self _) hkz)).trans z1
          have zf71 : w7.frozen? ⟨w8.heap.size, 1, none⟩ = false := (World.frozen?_of_block (a := ⟨w8.heap.size, 1, none⟩) (grow_old HOk.out hBu.out hgr7 (Nat.lt_succ_self _) hkz)).trans zf1
          obtain ⟨r1, r2, r3, r4, r5, r6, r7⟩ := grow_round KtO_mono hw9s KD.out HOk.out HFk.out HFkh.out HCk.out hB hHD8 (Nat.le_refl _) hBu.out HfrA.out HfsA.out hown7 hgr7
          have R1 := Lib.hid r1
          have R2 := Lib.hid r2
          have R3 := Lib.hid r3
          have R4 := Lib.hid r4
          have R5 := Lib.hid r5
          have R6 := Lib.hid r6
          clear r1 r2 r3 r4 r5 r6 hown7 hgr7 hat7
          go_wp2
          go_roundw
          case rel => exact ⟨k + 1, _, _, hlt, by go_num, R1, by rw [HF2.out]; exact R2.out, R3, R4, R5, R6.out, r7⟩
          case measure => (simp [intOf] <;> omega)
        · have HF2 := Lib.hid (dtk_succ xs d hdl)
          have hOr : Hid (Own wr w.heap.size 112 2 DtO (dtk xs d) u3 Fo) := Own.mono (w := w9) (fun x cs G hk h => DtO_mono _ _ x cs G hk h) HO9.out (HCk.out.kept (fun b hb => by have := HB8.out b hb; omega) (fun b hb => by have := HB8.out b hb; simp; omega)) HCk.out.size
          have hFrr : Hid (Free wr Fo) := HFr9.out.kept (HCk.out.kept (fun b hb => by have := HB8.out b (List.mem_append.2 (.inr hb)); omega) (fun b hb => by have := HB8.out b (List.mem_append.2 (.inr hb)); simp; omega))
          have hw18 : w1.heap.size ≤ w8.heap.size := hwr
          have hCr : Hid (Chg [w.heap.size] w1 wr) := HC9.out.trans_new HCk.out hw18
          have hka : ktk xs[d].ctors k = xs[d].ctors := ktk_all _ (by omega)
          have harr := HOk.out.arr
          have hfree := HOk.out.free HFk.out
          have hrk := HOk.out.row
          have hff : ∀ b ∈ (if ktk xs[d].ctors k = [] then [] else rowOf (.slice kA (ktk xs[d].ctors k).length kcap) ++ Fk), w8.heap.size + 1 ≤ b ∧ b < wr.heap.size := fun b hb => by
            split at hb
            · cases hb
            · rcases List.mem_append.1 hb with h | h
              · exact hrk b h
              · exact ⟨HFkh.out b h, HOk.out.under b h⟩
          generalize (if ktk xs[d].ctors k = [] then [] else rowOf (.slice kA (ktk xs[d].ctors k).length kcap) ++ Fk) = FF at harr hfree hff
          have HFF := Lib.hid hff
          have HFREE := Lib.hid hfree
          have HDX : Hid (DtO wr xs[d] [.string xs[d].name, .slice kA (ktk xs[d].ctors k).length kcap] FF) := ⟨_, rfl, by rw [hka] at harr ⊢; exact harr, hns⟩
          have hbs : w.heap.size ≤ wr.heap.size := hB.size
          clear harr hfree hrk hff HOk HFk HFkh HO9 HFr9 HC9 hka
          go_wp2_with (at_builtin; refine Halt.mk ?_)
          refine Halt.of (wpList_push1 (P := Try.prog) rfl _ _ 35 rfl m0 _ 40 Try.underlying35 HM.out HM0.out HM1.out HM2.out rfl (by decide) DtO_len DtO_mono (by rfl) hOr.out xs[d] 112 [.string xs[d].name, .slice kA (ktk xs[d].ctors k).length kcap] FF _ (by rfl) rfl (by simp [Value.oneCell']) HDX.out (fun b hb => (HFF.out b hb).2) (fun g hg hG => by have h1 := HB8.out g (List.mem_append.2 (.inl hg)); have h2 := (HFF.out g hG).1; omega) (by unfold maxLen; omega) (by omega) hbs ?_)
          intro g cp w7 hown7 hgr7 hat7
          obtain ⟨r1, r2, r3, r4, r5, r6⟩ := push_round (n := (dtk xs d).length + 1) (cp := cp) hOr.out hFrr.out HFREE.out HB8.out HFF.out HR.out hCr.out hB (Nat.le_refl _) HFh.out hw18 hgr7 hat7
          have R1 := Lib.hid r1
          have R2 := Lib.hid r2
          have R4 := Lib.hid r4
          have R5 := Lib.hid r5
          have HO7 := Lib.hid hown7
          clear r1 r2 r3 r4 r5 hown7 hgr7 hat7
          go_wp2
          go_roundw
          case rel => exact ⟨d + 1, Fo ++ FF, hdl, by go_num, by rw [HF2.out]; exact HO7.out, R1, R2, R4, R5.out, r6⟩
          case measure => (simp [intOf] <;> omega)
    · have hfin : Own wr w.heap.size 112 2 DtO xs u3 Fo := by
        have h := HO.out
        rw [dtk_all xs (by omega)] at h
        exact h
      have HFin := Lib.hid hfin
      clear hfin HO
      go_wp2
      go_ret
      exact ⟨_, Fo, rfl, hB, HFin.out, HFr.out, fun b hb => by have := HFh.out b hb; omega⟩
end Go.Proofs.Ytbffkgfhcmigaaa

namespace Go.Proofs.Ytbffkgfhcmigaaa
open Go.RowKit

def LitN (w : World) (b : Nat) (ls : List Int) : Prop := b < w.heap.size ∧ Arr w (NatR w) ls (.slice (some ⟨b, 0, none⟩) ls.length ls.length) [b]
theorem LitN.new (w : World) (ls : List Int) (hl : ls.length ≤ 1000) : LitN (w.alloc (.cells (ls.map (Value.int .i64)).toArray 3)) w.heap.size ls := ⟨by simp, lit_nums w ls hl⟩
theorem LitN.chg {w w' : World} {b : Nat} {ls : List Int} {F : List Nat} (h : LitN w b ls) (hc : Chg F w w') (hb : b ∉ F) : LitN w' b ls :=
  ⟨Nat.lt_of_lt_of_le h.1 hc.size, h.2.mono (hc.kept (fun x hx => by rw [List.mem_singleton.1 hx]; exact h.1) (fun x hx => by rw [List.mem_singleton.1 hx]; exact hb)) fun _ _ _ _ _ h => h⟩
theorem LitN.alloc {w : World} {b : Nat} {ls : List Int} (h : LitN w b ls) (o : Obj) : LitN (w.alloc o) b ls := h.chg (F := []) (.of_below ((Below.refl _ _).alloc (Nat.le_refl _) _)) (by simp)
theorem LitN.new2 (w : World) (o : Obj) (ls : List Int) (hl : ls.length ≤ 1000) : LitN ((w.alloc o).alloc (.cells (ls.map (Value.int .i64)).toArray 3)) (w.heap.size + 1) ls := by
  have h := LitN.new (w.alloc o) ls hl
  rwa [World.size_alloc] at h
theorem Chg.alloc {F : List Nat} {w w' : World} (h : Chg F w w') (o : Obj) : Chg F w (w'.alloc o) := h.step ((Below.refl _ _).alloc (Nat.le_refl _) _)
theorem num_at {w : World} {b : Nat} {ls : List Int} (hb : LitN w b ls) (hl1 : 1 ≤ ls.length) (hl2 : ls.length ≤ 1000) (p g : Nat) (h : Rd w g p) (hp : p ≤ 1000000) (hg : b ≠ g) :
    Calls Try.prog 158 #[.pointer (some ⟨g, 0, none⟩), .slice (some ⟨b, 0, none⟩) ls.length ls.length] w fun e w' => ∃ x, e = .returned (.int .i64 x) ∧ Rd w' g (p + 1) ∧ Chg [g] w w' := by
  refine (num_any ls hl1 hl2 p g w h hp _ _ hb.2 (fun x hx => by rw [List.mem_singleton.1 hx]; exact hb.1) (fun e => hg (List.mem_singleton.1 e).symm)).mono ?_
  rintro e w' ⟨x, -, rfl, hR, hC⟩
  exact ⟨x, rfl, hR, hC⟩
theorem Chg.undrewN {F : List Nat} {w w' : World} (h : Chg F w.drew w') : Chg F w w' := ⟨h.os, h.tape, h.output, h.size, h.block⟩

set_option maxRecDepth 100000 in
set_option maxHeartbeats 6400000 in
theorem spec_l1Mutate (p g : Nat) (w : World) (h : Rd w g p) (hp : p ≤ 900000) (xs : List Dt) (v : Value) (F : List Nat) (hx : Arr w (DtR w) xs v F) (hf : Under w.heap.size F) (h0 : 0 < xs.length) (hl : xs.length ≤ 99) (m : Nat) (hm : m ≤ 90) (hs : SmallW m xs) :
    Calls Try.prog 116 #[.pointer (some ⟨g, 0, none⟩), v] w (Mutd g p m xs w) := by
  have hgl := h.lt
  have HR0 := Lib.hid h
  have HCALL := Lib.hid (spec_l1Copy xs w v F hx hf (by omega) (hs.mono (by omega)))
  have HSM := Lib.hid hs
  have HMM := Lib.hid hm
  clear h hx hf hs hm
  obtain ⟨j0, hj, hj0, hj1, hj2⟩ := info_parts info_tyE
  have HJ := Lib.hid hj
  have HJ0 := Lib.hid hj0
  have HJ1 := Lib.hid hj1
  have HJ2 := Lib.hid hj2
  clear hj hj0 hj1 hj2
  obtain ⟨m0, hm, hm0, hm1, hm2⟩ := info_parts info_DtE
  have HM := Lib.hid hm
  have HM0 := Lib.hid hm0
  have HM1 := Lib.hid hm1
  have HM2 := Lib.hid hm2
  clear hm hm0 hm1 hm2
  go_enter Try.func116, Try.ntmps116
  go_wp2_with fail
  refine HCALL.out.mono ?_
  rintro e w1 ⟨v1, F1, rfl, hb1, ho1, hfr1, hfs1⟩
  have hCpy : Cpy g p xs v1 F1 w w1 := ⟨HR0.out.below hb1, Chg.of_below hb1, ho1, hfr1, fun b hb => by have := hfs1 b hb; omega, hgl⟩
  obtain ⟨A1, cap1, rfl, hc1, hc2⟩ := ho1.form
  obtain ⟨FF, ha1, -, -⟩ := hCpy.arr
  obtain ⟨b, off, rfl⟩ := ha1.ptr h0
  have HC1 := Lib.hid hCpy
  clear hCpy ho1 ha1 hb1 hfr1 hfs1 HCALL HR0
  go_wp2_with fail
  refine (pick_any xs.length p g w1 HC1.out.rd (by omega) h0 (by omega)).mono ?_
  rintro e w2 ⟨d, rfl, hd, hR2, hC2⟩
  have HC2 := Lib.hid (HC1.out.step hR2 hC2)
  clear hR2 hC2 HC1
  have g1 : (0 : Int) ≤ (d : Int) := by omega
  have g2 : (d : Int) < (xs.length : Int) := by omega
  obtain ⟨kA, kcap, F2, n0, k0, z0, hb, hbl, hk1, hk2, hdx, hF2, hname, hctors⟩ := HC2.out.data (p := p) h0 HSM.out hd
  clear n0 z0 hb hbl hdx hF2 hname hctors
  cases q0 : ((xs[d].ctors.length : Int) == 0) with
  | true =>
    have HFin := Lib.hid (HC2.out.done (p := p) h0 HSM.out (by omega))
    clear HC2
    go_wp2
    go_ret
    exact HFin.out
  | false =>
    have hk0 : 0 < xs[d].ctors.length := by rw [beq_eq_false_iff_ne] at q0; omega
    have e0 : (0 : Int) < (xs[d].ctors.length : Int) := by omega
    go_wp2_with fail
    refine (pick_any 30 (p + 1) g w2 HC2.out.rd (by omega) (by omega) (by omega)).mono ?_
    rintro e w3 ⟨r, rfl, hr, hR3, hC3⟩
    have HC3 := Lib.hid (HC2.out.step hR3 hC3)
    clear hR3 hC3 HC2 k0 hk1 hk2
    cases c0q : ((r : Int) == 0) with
    | true =>
      go_wp2_with fail
      refine (of_lit [⟨#[73]⟩, ⟨#[]⟩, ⟨#[97]⟩, ⟨#[76, 76]⟩, ⟨#[90]⟩] (by decide) (by decide) (p + 1 + 1) g w3 HC3.out.rd (by omega)).mono ?_
      rintro e w4 ⟨s, hs, rfl, hR4, hC4⟩
      have hsz : s.size ≤ 1000 := by
        have hall : ∀ x ∈ ([⟨#[73]⟩, ⟨#[]⟩, ⟨#[97]⟩, ⟨#[76, 76]⟩, ⟨#[90]⟩] : List ByteArray), x.size ≤ 1000 := by decide
        exact hall s hs
      have HC4 := Lib.hid (HC3.out.step hR4 hC4)
      clear hR4 hC4 HC3 hs
      obtain ⟨kA, kcap, F2, n0, k0, z0, hb, hbl, hk1, hk2, hdx, hF2, hname, hctors⟩ := HC4.out.data (p := p) h0 HSM.out hd
      have f0 := z0 (off + d * 2)
      have HFin := Lib.hid (hname s hsz (by omega))
      clear k0 z0 hb hk1 hk2 hdx hF2 hname hctors HC4
      go_wp2
      go_ret
      exact HFin.out
    | false =>
      cases c1q : ((r : Int) == 1) with
      | true =>
        obtain ⟨kA, kcap, F2, n0, k0, z0, hb, hbl, hk1, hk2, hdx, hF2, hname, hctors⟩ := HC3.out.data (p := p) h0 HSM.out hd
        have f0 : (w3.alloc (.cells #[] 164)).frozen? ⟨b, off + d * 2 + 1, none⟩ = false := (World.frozen?_of_block (a := ⟨b, off + d * 2 + 1, none⟩) (Below.heap_alloc _ _ _ hbl)).trans (z0 _)
        have y0 : (w3.alloc (.cells #[] 164)).cell? ⟨b, off + d * 2 + 1, none⟩ = some (.slice kA xs[d].ctors.length kcap) := (World.cell?_alloc_lt _ _ _ hbl).trans k0
        have HFin := Lib.hid (hctors 164 (by omega))
        clear n0 k0 z0 hb hk1 hk2 hdx hF2 hname hctors HC3
        go_wp2
        go_ret
        exact HFin.out
      | false =>
        cases c2q : ((r : Int) == 2) with
        | true =>
          have hCd := HC3.out.drew
          clear HC3
          obtain ⟨b2, off2, cap2, aA, acap, kc, hbb, hbg, hb2g, hbl, hb2l, hz2, c0, c1, c2, hown, hrow, hal, H2, H4, H3⟩ := hCd.ctor (p := p) h0 HSM.out hd hk0
          have HH := Lib.hid H2
          have hR3 := Lib.hid hCd.rd
          have f3 := hz2 (off2)
          clear c1 c2 hown hrow hal H2 H4 H3 hCd hz2
          go_wp2_with fail
          refine wp_region_B (S := fun w' => w'.cell? ⟨b, off + d * 2 + 1, none⟩ = some (.slice (some ⟨b2, off2, none⟩) xs[d].ctors.length cap2)) (T := fun _ => True) (d := 10) (by kernel_rfl) ?_
          generalize w3.drew = wd at *
          have hS1 : wd.cell? ⟨b, off + d * 2 + 1, none⟩ = some (.slice (some ⟨b2, off2, none⟩) xs[d].ctors.length cap2) := kc
          have hT1 : True := trivial
          refine wpAnyB_take (i := 0) (v := ?_) rfl (by decide) (by kernel_rfl) (by kernel_rfl) (by kernel_rfl) (fun _ _ _ h => h) (Or.inl ⟨by rfl, ?hy0⟩) hS1 (fun _ => hT1) ?_
          case hy0 => (intro W hSw; (try dsimp only at hSw); go_simp; try with_reducible rfl)
          (try simp only [Act.put, List.setIfInBounds_toArray, List.set_cons_zero, List.set_cons_succ])
          refine wpAnyB_take (i := 1) (v := ?_) rfl (by decide) (by kernel_rfl) (by kernel_rfl) (by kernel_rfl) (fun _ _ _ h => h) (Or.inl ⟨by rfl, ?hy1⟩) hS1 (fun _ => hT1) ?_
          case hy1 => (intro W hSw; (try dsimp only at hSw); go_simp; try with_reducible rfl)
          (try simp only [Act.put, List.setIfInBounds_toArray, List.set_cons_zero, List.set_cons_succ])
          refine wpAnyB_take (i := 2) (v := ?_) rfl (by decide) (by kernel_rfl) (by kernel_rfl) (by kernel_rfl) (fun _ _ _ h => h) (Or.inl ⟨by rfl, ?hy2⟩) hS1 (fun _ => hT1) ?_
          case hy2 => (intro W hSw; (try dsimp only at hSw); go_simp; try with_reducible rfl)
          (try simp only [Act.put, List.setIfInBounds_toArray, List.set_cons_zero, List.set_cons_succ])
          refine wpAnyB_take (i := 3) (v := ?_) rfl (by decide) (by kernel_rfl) (by kernel_rfl) (by kernel_rfl) (fun _ _ _ h => h) (Or.inl ⟨by rfl, ?hy3⟩) hS1 (fun _ => hT1) ?_
          case hy3 => (intro W hSw; (try dsimp only at hSw); go_simp; try with_reducible rfl)
          (try simp only [Act.put, List.setIfInBounds_toArray, List.set_cons_zero, List.set_cons_succ])
          refine wpAnyB_take (i := 4) (v := ?_) rfl (by decide) (by kernel_rfl) (by kernel_rfl) (by kernel_rfl) (fun _ _ _ h => h) (Or.inl ⟨by rfl, ?hy4⟩) hS1 (fun _ => hT1) ?_
          case hy4 => (intro W hSw; (try dsimp only at hSw); go_simp; try with_reducible rfl)
          (try simp only [Act.put, List.setIfInBounds_toArray, List.set_cons_zero, List.set_cons_succ])
          refine wpAnyB_take (i := 5) (v := ?_) rfl (by decide) (by kernel_rfl) (by kernel_rfl) (by kernel_rfl) (fun _ _ _ h => h) (Or.inl ⟨by rfl, ?hy5⟩) hS1 (fun _ => hT1) ?_
          case hy5 => (intro W hSw; (try dsimp only at hSw); go_simp; try with_reducible rfl)
          (try simp only [Act.put, List.setIfInBounds_toArray, List.set_cons_zero, List.set_cons_succ])
          refine wpAnyB_ready (rs := [6]) (by kernel_rfl) (by simp) ?_
          refine AllReadyB.cons rfl (fun K hK => ?_) AllReadyB.nil
          go_simp
          refine hK.out _ _ ((World.cell?_alloc_lt _ _ _ hbl).trans kc) (fun _ => trivial) ?_
          clear hK K
          (try simp only [Act.put, List.setIfInBounds_toArray, List.set_cons_zero, List.set_cons_succ])
          refine wpAnyB_ready (rs := [7]) (by kernel_rfl) (by simp) ?_
          refine AllReadyB.cons rfl (fun K hK => ?_) AllReadyB.nil
          go_simp
          go_at_call 160
          refine (of_lit [⟨#[]⟩, ⟨#[110, 105, 108]⟩, ⟨#[84, 111, 111, 108, 111, 110, 103]⟩, ⟨#[88]⟩] (by decide) (by decide) (p + 1 + 1) g wd hR3.out (by omega)).mono ?_
          rintro e w4 ⟨s, hs, rfl, hR4, hC4⟩
          have hC5 := hC4
          have hsz : s.size ≤ 1000 := by
            have hall : ∀ x ∈ ([⟨#[]⟩, ⟨#[110, 105, 108]⟩, ⟨#[84, 111, 111, 108, 111, 110, 103]⟩, ⟨#[88]⟩] : List ByteArray), x.size ≤ 1000 := by decide
            exact hall s hs
          have hS4 : w4.cell? ⟨b, off + d * 2 + 1, none⟩ = some (.slice (some ⟨b2, off2, none⟩) xs[d].ctors.length cap2) := (hC5.cell hbl hbg).trans kc
          have x4 : w4.cell? ⟨b2, off2, none⟩ = some (.string xs[d].ctors[0].name) := (hC5.cell hb2l hb2g).trans c0
          have f4 : w4.frozen? ⟨b2, off2, none⟩ = false := (World.frozen?_of_block (a := ⟨b2, off2, none⟩) (hC5.block _ hb2l hb2g)).trans f3
          have HFin := Lib.hid (HH.out w4 _ s hR4 hC5 (by omega) hsz)
          dsimp only
          refine hK.out _ _ hS4 (fun _ => trivial) ?_
          clear hK K
          (try simp only [Act.put, List.setIfInBounds_toArray, List.set_cons_zero, List.set_cons_succ])
          refine wpAnyB_take (i := 8) (v := ?_) rfl (by decide) (by kernel_rfl) (by kernel_rfl) (by kernel_rfl) (fun _ _ _ h => h) (Or.inl ⟨by rfl, ?hy8⟩) hS4 (fun _ => hT1) ?_
          case hy8 => (intro W hSw; (try dsimp only at hSw); go_simp; try with_reducible rfl)
          (try simp only [Act.put, List.setIfInBounds_toArray, List.set_cons_zero, List.set_cons_succ])
          refine wpAnyB_take (i := 9) (v := ?_) rfl (by decide) (by kernel_rfl) (by kernel_rfl) (by kernel_rfl) (fun _ _ _ h => h) (Or.inl ⟨by rfl, ?hy9⟩) hS4 (fun _ => hT1) ?_
          case hy9 => (intro W hSw; (try dsimp only at hSw); go_simp; try with_reducible rfl)
          (try simp only [Act.put, List.setIfInBounds_toArray, List.set_cons_zero, List.set_cons_succ])
          refine wpAnyB_ready (rs := [10]) (by kernel_rfl) (by simp) ?_
          refine AllReadyB.cons rfl (fun K hK => ?_) AllReadyB.nil
          go_simp
          refine hK.out _ _ ((World.cell?_setCell_far _ _ _ _ (by show b2 ≠ b; exact fun e => hbb e.symm)).trans hS4) (fun _ => trivial) ?_
          clear hK K
          (try simp only [Act.put, List.setIfInBounds_toArray, List.set_cons_zero, List.set_cons_succ])
          refine wpAnyB_end (by kernel_rfl) ?_
          clear hS1 hT1 hS4 x4 f4 hC5 hC4 hR4 HH hR3 f3 kc c0
          go_wp2
          go_ret
          exact HFin.out
        | false =>
          cases c3q : ((r : Int) == 3) with
          | true =>
            have hCd := HC3.out.drew
            clear HC3
            obtain ⟨b2, off2, cap2, aA, acap, kc, hbb, hbg, hb2g, hbl, hb2l, hz2, c0, c1, c2, hown, hrow, hal, H2, H4, H3⟩ := hCd.ctor (p := p) h0 HSM.out hd hk0
            have HH := Lib.hid H3
            have HRD := Lib.hid hCd.rd
            have f3 := hz2 (off2 + 1)
            have HOWN := Lib.hid hown
            have HROW := Lib.hid hrow
            have hm90 := HMM.out
            have hmx : xs[d].ctors[0].args.length + 1 ≤ maxLen := by unfold maxLen; omega
            have hby : (xs[d].ctors[0].args.length + 1) * 16 ≤ 140737488355328 := by omega
            clear hm90
            have hgl3 : g < w3.drew.heap.size := hCd.rd.lt
            have hgs : w3.drew.heap.size ≠ g := by omega
            have hgs1 : w3.drew.heap.size + 1 ≠ g := by omega
            clear c0 c2 hown hrow H2 H4 H3 hCd hz2
            go_wp2_with fail
            refine wp_region_B (S := fun w' => w'.cell? ⟨b, off + d * 2 + 1, none⟩ = some (.slice (some ⟨b2, off2, none⟩) xs[d].ctors.length cap2)) (T := fun w' => w'.cell? ⟨b2, off2 + 1, none⟩ = some (.slice aA xs[d].ctors[0].args.length acap)) (d := 21) (by kernel_rfl) ?_
            generalize w3.drew = wd at *
            have hS1 : wd.cell? ⟨b, off + d * 2 + 1, none⟩ = some (.slice (some ⟨b2, off2, none⟩) xs[d].ctors.length cap2) := kc
            have hT1 : wd.cell? ⟨b2, off2 + 1, none⟩ = some (.slice aA xs[d].ctors[0].args.length acap) := c1
            refine wpAnyB_take (i := 0) (v := ?_) rfl (by decide) (by kernel_rfl) (by kernel_rfl) (by kernel_rfl) (fun _ _ _ h => h) (Or.inl ⟨by rfl, ?hy0⟩) hS1 (fun _ => hT1) ?_
            case hy0 => (intro W hSw; (try dsimp only at hSw); go_simp; try with_reducible rfl)
            (try simp only [Act.put, List.setIfInBounds_toArray, List.set_cons_zero, List.set_cons_succ])
            refine wpAnyB_take (i := 1) (v := ?_) rfl (by decide) (by kernel_rfl) (by kernel_rfl) (by kernel_rfl) (fun _ _ _ h => h) (Or.inl ⟨by rfl, ?hy1⟩) hS1 (fun _ => hT1) ?_
            case hy1 => (intro W hSw; (try dsimp only at hSw); go_simp; try with_reducible rfl)
            (try simp only [Act.put, List.setIfInBounds_toArray, List.set_cons_zero, List.set_cons_succ])
            refine wpAnyB_take (i := 2) (v := ?_) rfl (by decide) (by kernel_rfl) (by kernel_rfl) (by kernel_rfl) (fun _ _ _ h => h) (Or.inl ⟨by rfl, ?hy2⟩) hS1 (fun _ => hT1) ?_
            case hy2 => (intro W hSw; (try dsimp only at hSw); go_simp; try with_reducible rfl)
            (try simp only [Act.put, List.setIfInBounds_toArray, List.set_cons_zero, List.set_cons_succ])
            refine wpAnyB_take (i := 3) (v := ?_) rfl (by decide) (by kernel_rfl) (by kernel_rfl) (by kernel_rfl) (fun _ _ _ h => h) (Or.inl ⟨by rfl, ?hy3⟩) hS1 (fun _ => hT1) ?_
            case hy3 => (intro W hSw; (try dsimp only at hSw); go_simp; try with_reducible rfl)
            (try simp only [Act.put, List.setIfInBounds_toArray, List.set_cons_zero, List.set_cons_succ])
            refine wpAnyB_take (i := 4) (v := ?_) rfl (by decide) (by kernel_rfl) (by kernel_rfl) (by kernel_rfl) (fun _ _ _ h => h) (Or.inl ⟨by rfl, ?hy4⟩) hS1 (fun _ => hT1) ?_
            case hy4 => (intro W hSw; (try dsimp only at hSw); go_simp; try with_reducible rfl)
            (try simp only [Act.put, List.setIfInBounds_toArray, List.set_cons_zero, List.set_cons_succ])
            refine wpAnyB_take (i := 5) (v := ?_) rfl (by decide) (by kernel_rfl) (by kernel_rfl) (by kernel_rfl) (fun _ _ _ h => h) (Or.inl ⟨by rfl, ?hy5⟩) hS1 (fun _ => hT1) ?_
            case hy5 => (intro W hSw; (try dsimp only at hSw); go_simp; try with_reducible rfl)
            (try simp only [Act.put, List.setIfInBounds_toArray, List.set_cons_zero, List.set_cons_succ])
            refine wpAnyB_take (i := 6) (v := ?_) rfl (by decide) (by kernel_rfl) (by kernel_rfl) (by kernel_rfl) (fun _ _ _ h => h) (Or.inl ⟨by rfl, ?hy6⟩) hS1 (fun _ => hT1) ?_
            case hy6 => (intro W hSw; (try dsimp only at hSw); go_simp; try with_reducible rfl)
            (try simp only [Act.put, List.setIfInBounds_toArray, List.set_cons_zero, List.set_cons_succ])
            refine wpAnyB_take (i := 7) (v := ?_) rfl (by decide) (by kernel_rfl) (by kernel_rfl) (by kernel_rfl) (fun _ _ _ h => h) (Or.inl ⟨by rfl, ?hy7⟩) hS1 (fun _ => hT1) ?_
            case hy7 => (intro W hSw; (try dsimp only at hSw); go_simp; try with_reducible rfl)
            (try simp only [Act.put, List.setIfInBounds_toArray, List.set_cons_zero, List.set_cons_succ])
            refine wpAnyB_take (i := 8) (v := ?_) rfl (by decide) (by kernel_rfl) (by kernel_rfl) (by kernel_rfl) (fun _ _ _ h => h) (Or.inl ⟨by rfl, ?hy8⟩) hS1 (fun _ => hT1) ?_
            case hy8 => (intro W hSw; (try dsimp only at hSw); go_simp; try with_reducible rfl)
            (try simp only [Act.put, List.setIfInBounds_toArray, List.set_cons_zero, List.set_cons_succ])
            refine wpAnyB_take (i := 9) (v := ?_) rfl (by decide) (by kernel_rfl) (by kernel_rfl) (by kernel_rfl) (fun _ _ _ h => h) (Or.inl ⟨by rfl, ?hy9⟩) hS1 (fun _ => hT1) ?_
            case hy9 => (intro W hSw; (try dsimp only at hSw); go_simp; try with_reducible rfl)
            (try simp only [Act.put, List.setIfInBounds_toArray, List.set_cons_zero, List.set_cons_succ])
            refine wpAnyB_take (i := 10) (v := ?_) rfl (by decide) (by kernel_rfl) (by kernel_rfl) (by kernel_rfl) (fun _ _ _ h => h) (Or.inl ⟨by rfl, ?hy10⟩) hS1 (fun _ => hT1) ?_
            case hy10 => (intro W hSw; (try dsimp only at hSw); go_simp; try with_reducible rfl)
            (try simp only [Act.put, List.setIfInBounds_toArray, List.set_cons_zero, List.set_cons_succ])
            refine wpAnyB_take (i := 11) (v := ?_) rfl (by decide) (by kernel_rfl) (by kernel_rfl) (by kernel_rfl) (fun _ _ _ h => h) (Or.inl ⟨by rfl, ?hy11⟩) hS1 (fun _ => hT1) ?_
            case hy11 => (intro W hSw; (try dsimp only at hSw); go_simp; try with_reducible rfl)
            (try simp only [Act.put, List.setIfInBounds_toArray, List.set_cons_zero, List.set_cons_succ])
            refine wpAnyB_takeB (i := 12) (v := ?_) rfl (by decide) rfl (by kernel_rfl) (by kernel_rfl) (by kernel_rfl) (by kernel_rfl) (fun _ _ _ h => h) (Or.inl ⟨by rfl, ?hy12⟩) (by rfl) hS1 hT1 ?_
            case hy12 => (intro W hSw; (try dsimp only at hSw); go_simp; try with_reducible rfl)
            (try simp only [Act.put, List.setIfInBounds_toArray, List.set_cons_zero, List.set_cons_succ])
            refine wpAnyB_take (i := 13) (v := ?_) rfl (by decide) (by kernel_rfl) (by kernel_rfl) (by kernel_rfl) (fun _ _ _ h => h) (Or.inl ⟨by rfl, ?hy13⟩) hS1 (fun _ => hT1) ?_
            case hy13 => (intro W hSw; (try dsimp only at hSw); go_simp; try with_reducible rfl)
            (try simp only [Act.put, List.setIfInBounds_toArray, List.set_cons_zero, List.set_cons_succ])
            refine wpAnyB_take (i := 16) (v := ?_) rfl (by decide) (by kernel_rfl) (by kernel_rfl) (by kernel_rfl) (fun _ _ _ h => h) (Or.inl ⟨by rfl, ?hy16⟩) hS1 (fun _ => hT1) ?_
            case hy16 => (intro W hSw; (try dsimp only at hSw); go_simp; try with_reducible rfl)
            (try simp only [Act.put, List.setIfInBounds_toArray, List.set_cons_zero, List.set_cons_succ])
            refine wpAnyB_ready (rs := [14, 17]) (by kernel_rfl) (by simp) ?_
            refine AllReadyB.cons rfl (fun K hK => ?_) (AllReadyB.cons rfl (fun K hK => ?_) AllReadyB.nil)
            · go_simp
              refine hK.out _ _ (((Chg.refl [g] wd).alloc _).cell hbl hbg |>.trans kc) (fun _ => ((Chg.refl [g] wd).alloc _).cell hb2l hb2g |>.trans c1) ?_
              clear hK K
              (try simp only [Act.put, List.setIfInBounds_toArray, List.set_cons_zero, List.set_cons_succ])
              refine wpAnyB_ready (rs := [15, 17]) (by kernel_rfl) (by simp) ?_
              refine AllReadyB.cons rfl (fun K hK => ?_) (AllReadyB.cons rfl (fun K hK => ?_) AllReadyB.nil)
              · go_simp
                go_at_call 158
                refine (num_at (LitN.new wd [9, -2, 0, -1] (by decide)) (by decide) (by decide) (p + 1 + 1) g (HRD.out.below ((Below.refl _ _).alloc (Nat.le_refl _) _)) (by omega) hgs).mono ?_
                rintro e w5 ⟨x, rfl, hRw5, hCw5⟩
                have hC5 : Chg [g] wd w5 := ((Chg.refl [g] wd).alloc _).trans hCw5
                dsimp only
                refine hK.out _ _ (((hC5).cell hbl hbg).trans kc) (fun _ => ((hC5).cell hb2l hb2g).trans c1) ?_
                clear hK K
                (try simp only [Act.put, List.setIfInBounds_toArray, List.set_cons_zero, List.set_cons_succ])
                refine wpAnyB_ready (rs := [17]) (by kernel_rfl) (by simp) ?_
                refine AllReadyB.cons rfl (fun K hK => ?_) AllReadyB.nil
                go_simp
                refine hK.out _ _ (((hC5).alloc _).cell hbl hbg |>.trans kc) (fun _ => ((hC5).alloc _).cell hb2l hb2g |>.trans c1) ?_
                clear hK K
                (try simp only [Act.put, List.setIfInBounds_toArray, List.set_cons_zero, List.set_cons_succ])
                refine wpAnyB_ready (rs := [18]) (by kernel_rfl) (by simp) ?_
                refine AllReadyB.cons rfl (fun K hK => ?_) AllReadyB.nil
                go_simp
                go_at_call 158
                refine (num_at (LitN.new w5 [0, 4, -1, -2] (by decide)) (by decide) (by decide) (p + 1 + 1 + 1) g (hRw5.below ((Below.refl _ _).alloc (Nat.le_refl _) _)) (by omega) (by have := hC5.size; omega)).mono ?_
                rintro e w6 ⟨y, rfl, hRw6, hCw6⟩
                have hC6 : Chg [g] wd w6 := (hC5.alloc _).trans hCw6
                have hSE : w6.cell? ⟨b, off + d * 2 + 1, none⟩ = some (.slice (some ⟨b2, off2, none⟩) xs[d].ctors.length cap2) := ((hC6).cell hbl hbg).trans kc
                have hTE : w6.cell? ⟨b2, off2 + 1, none⟩ = some (.slice aA xs[d].ctors[0].args.length acap) := ((hC6).cell hb2l hb2g).trans c1
                have HOE : Hid (Own w6 0 37 2 TyR xs[d].ctors[0].args (.slice aA xs[d].ctors[0].args.length acap) []) := HOWN.out.mono0 (w' := w6) (fun x cs G (h : TyR wd x cs G) => (h : TyR w6 x cs G)) ((hC6).kept (fun x hx => (HROW.out x hx).2.2.2) (fun x hx => (HROW.out x hx).1))
                have hzE : wd.heap.size ≤ w6.heap.size := (hC6).size
                have hfE : w6.frozen? ⟨b2, off2 + 1, none⟩ = false := (World.frozen?_of_block (a := ⟨b2, off2 + 1, none⟩) ((hC6).block _ hb2l hb2g)).trans f3
                have hFinE := HH.out w6 (p + 1 + 1 + 1 + 1) ⟨x, y⟩
                have HFE := Lib.hid (fun g' c' w3' o => hFinE g' c' w3' o hRw6 (hC6) (by omega))
                clear hFinE
                dsimp only
                refine hK.out _ _ hSE (fun _ => hTE) ?_
                clear hK K
                (try simp only [Act.put, List.setIfInBounds_toArray, List.set_cons_zero, List.set_cons_succ])
                refine wpAnyB_take (i := 19) (v := ?_) rfl (by decide) (by kernel_rfl) (by kernel_rfl) (by kernel_rfl) (fun _ _ _ h => h) (Or.inl ⟨by rfl, ?hy19⟩) hSE (fun _ => hTE) ?_
                case hy19 => (intro W hSw; (try dsimp only at hSw); go_simp; try with_reducible rfl)
                (try simp only [Act.put, List.setIfInBounds_toArray, List.set_cons_zero, List.set_cons_succ])
                refine wpAnyB_ready (rs := [20]) (by kernel_rfl) (by simp) ?_
                refine AllReadyB.cons rfl (fun K hK => ?_) AllReadyB.nil
                go_simp
                refine hK.out _ _ ((World.cell?_alloc_lt _ _ _ (Nat.lt_of_lt_of_le hbl hzE)).trans hSE) (fun _ => (World.cell?_alloc_lt _ _ _ (Nat.lt_of_lt_of_le hb2l hzE)).trans hTE) ?_
                clear hK K
                (try simp only [Act.put, List.setIfInBounds_toArray, List.set_cons_zero, List.set_cons_succ])
                refine wpAnyB_ready (rs := [21]) (by kernel_rfl) (by simp) ?_
                refine AllReadyB.cons rfl (fun K hK => ?_) AllReadyB.nil
                refine step_push1 (P := Try.prog) rfl _ _ 94 rfl j0 _ 16 Try.underlying94 HJ.out HJ0.out HJ1.out HJ2.out rfl (by decide) TyR_len' TyR_mono' (by rfl) HOE.out ⟨x, y⟩ 37 [.int .i64 x, .int .i64 y] [] _ (by rfl) rfl (by simp [Value.oneCell']) ⟨rfl, rfl⟩ (Under.nil _) (fun _ _ h => by cases h) hmx hby (Nat.zero_le _) ?_
                intro g' cp w7 hown7 hgr7 hat7
                have nb : some b ≠ (Value.slice aA xs[d].ctors[0].args.length acap).ownBlock := fun e => (HROW.out b (mem_rowOf.2 e.symm)).2.1 rfl
                have nb2 : some b2 ≠ (Value.slice aA xs[d].ctors[0].args.length acap).ownBlock := fun e => (HROW.out b2 (mem_rowOf.2 e.symm)).2.2.1 rfl
                have l7 : w6.heap.size ≤ (w6.alloc (.cells #[.int .i64 x, .int .i64 y] 37)).heap.size := by rw [World.size_alloc]; exact Nat.le_succ _
                have l8 : b < w6.heap.size := Nat.lt_of_lt_of_le hbl hzE
                have l9 : b2 < w6.heap.size := Nat.lt_of_lt_of_le hb2l hzE
                have s7 : w7.cell? ⟨b, off + d * 2 + 1, none⟩ = some (.slice (some ⟨b2, off2, none⟩) xs[d].ctors.length cap2) := (World.grownBy.cell_far hgr7 ⟨b, off + d * 2 + 1, none⟩ (Nat.lt_of_lt_of_le l8 l7) nb).trans ((World.cell?_alloc_lt _ _ _ l8).trans hSE)
                have t7 : w7.cell? ⟨b2, off2 + 1, none⟩ = some (.slice aA xs[d].ctors[0].args.length acap) := (World.grownBy.cell_far hgr7 ⟨b2, off2 + 1, none⟩ (Nat.lt_of_lt_of_le l9 l7) nb2).trans ((World.cell?_alloc_lt _ _ _ l9).trans hTE)
                have f7 : w7.frozen? ⟨b2, off2 + 1, none⟩ = false := (World.grownBy.frozen_far hgr7 ⟨b2, off2 + 1, none⟩ (Nat.lt_of_lt_of_le l9 l7) nb2).trans (Eq.trans (World.frozen?_of_block (Below.heap_alloc _ _ _ l9)) hfE)
                have HFin := Lib.hid (HFE.out g' cp w7 _ hown7 hgr7 hat7)
                refine hK.out _ _ s7 (fun _ => t7) ?_
                clear hK K
                (try simp only [Act.put, List.setIfInBounds_toArray, List.set_cons_zero, List.set_cons_succ])
                refine wpAnyB_take (i := 22) (v := ?_) rfl (by decide) (by kernel_rfl) (by kernel_rfl) (by kernel_rfl) (fun _ _ _ h => h) (Or.inl ⟨by rfl, ?hy22⟩) s7 (fun _ => t7) ?_
                case hy22 => (intro W hSw; (try dsimp only at hSw); go_simp; try with_reducible rfl)
                (try simp only [Act.put, List.setIfInBounds_toArray, List.set_cons_zero, List.set_cons_succ])
                refine wpAnyB_take (i := 23) (v := ?_) rfl (by decide) (by kernel_rfl) (by kernel_rfl) (by kernel_rfl) (fun _ _ _ h => h) (Or.inl ⟨by rfl, ?hy23⟩) s7 (fun _ => t7) ?_
                case hy23 => (intro W hSw; (try dsimp only at hSw); go_simp; try with_reducible rfl)
                (try simp only [Act.put, List.setIfInBounds_toArray, List.set_cons_zero, List.set_cons_succ])
                refine wpAnyB_ready (rs := [24]) (by kernel_rfl) (by simp) ?_
                refine AllReadyB.cons rfl (fun K hK => ?_) AllReadyB.nil
                go_simp
                refine hK.out _ _ ((World.cell?_setCell_far _ _ _ _ (by show b2 ≠ b; exact fun e => hbb e.symm)).trans s7) (fun h => by cases h) ?_
                clear hK K
                (try simp only [Act.put, List.setIfInBounds_toArray, List.set_cons_zero, List.set_cons_succ])
                refine wpAnyB_end (by kernel_rfl) ?_
                clear hS1 hT1 hSE hTE HOE hzE hfE HFE nb nb2 l7 l8 l9 s7 t7 f7 hown7 hgr7 hat7 HH HOWN HROW f3 kc c1 hmx hby
                go_wp2
                go_ret
                exact HFin.out
              · go_simp
                refine hK.out _ _ ((((Chg.refl [g] wd).alloc _).alloc _).cell hbl hbg |>.trans kc) (fun _ => (((Chg.refl [g] wd).alloc _).alloc _).cell hb2l hb2g |>.trans c1) ?_
                clear hK K
                (try simp only [Act.put, List.setIfInBounds_toArray, List.set_cons_zero, List.set_cons_succ])
                refine wpAnyB_ready (rs := [15]) (by kernel_rfl) (by simp) ?_
                refine AllReadyB.cons rfl (fun K hK => ?_) AllReadyB.nil
                go_simp
                go_at_call 158
                refine (num_at ((LitN.new wd [9, -2, 0, -1] (by decide)).alloc _) (by decide) (by decide) (p + 1 + 1) g ((HRD.out.below ((Below.refl _ _).alloc (Nat.le_refl _) _)).below ((Below.refl _ _).alloc (Nat.le_refl _) _)) (by omega) hgs).mono ?_
                rintro e w5 ⟨x, rfl, hRw5, hCw5⟩
                have hC5 : Chg [g] wd w5 := (((Chg.refl [g] wd).alloc _).alloc _).trans hCw5
                have hLB : LitN w5 (wd.heap.size + 1) [0, 4, -1, -2] := (LitN.new2 wd _ [0, 4, -1, -2] (by decide)).chg hCw5 (by rw [List.mem_singleton]; exact hgs1)
                dsimp only
                refine hK.out _ _ (((hC5).cell hbl hbg).trans kc) (fun _ => ((hC5).cell hb2l hb2g).trans c1) ?_
                clear hK K
                (try simp only [Act.put, List.setIfInBounds_toArray, List.set_cons_zero, List.set_cons_succ])
                refine wpAnyB_ready (rs := [18]) (by kernel_rfl) (by simp) ?_
                refine AllReadyB.cons rfl (fun K hK => ?_) AllReadyB.nil
                go_simp
                go_at_call 158
                refine (num_at hLB (by decide) (by decide) (p + 1 + 1 + 1) g hRw5 (by omega) hgs1).mono ?_
                rintro e w6 ⟨y, rfl, hRw6, hCw6⟩
                have hC6 : Chg [g] wd w6 := hC5.trans hCw6
                have hSE : w6.cell? ⟨b, off + d * 2 + 1, none⟩ = some (.slice (some ⟨b2, off2, none⟩) xs[d].ctors.length cap2) := ((hC6).cell hbl hbg).trans kc
                have hTE : w6.cell? ⟨b2, off2 + 1, none⟩ = some (.slice aA xs[d].ctors[0].args.length acap) := ((hC6).cell hb2l hb2g).trans c1
                have HOE : Hid (Own w6 0 37 2 TyR xs[d].ctors[0].args (.slice aA xs[d].ctors[0].args.length acap) []) := HOWN.out.mono0 (w' := w6) (fun x cs G (h : TyR wd x cs G) => (h : TyR w6 x cs G)) ((hC6).kept (fun x hx => (HROW.out x hx).2.2.2) (fun x hx => (HROW.out x hx).1))
                have hzE : wd.heap.size ≤ w6.heap.size := (hC6).size
                have hfE : w6.frozen? ⟨b2, off2 + 1, none⟩ = false := (World.frozen?_of_block (a := ⟨b2, off2 + 1, none⟩) ((hC6).block _ hb2l hb2g)).trans f3
                have hFinE := HH.out w6 (p + 1 + 1 + 1 + 1) ⟨x, y⟩
                have HFE := Lib.hid (fun g' c' w3' o => hFinE g' c' w3' o hRw6 (hC6) (by omega))
                clear hFinE
                dsimp only
                refine hK.out _ _ hSE (fun _ => hTE) ?_
                clear hK K
                (try simp only [Act.put, List.setIfInBounds_toArray, List.set_cons_zero, List.set_cons_succ])
                refine wpAnyB_take (i := 19) (v := ?_) rfl (by decide) (by kernel_rfl) (by kernel_rfl) (by kernel_rfl) (fun _ _ _ h => h) (Or.inl ⟨by rfl, ?hy19⟩) hSE (fun _ => hTE) ?_
                case hy19 => (intro W hSw; (try dsimp only at hSw); go_simp; try with_reducible rfl)
                (try simp only [Act.put, List.setIfInBounds_toArray, List.set_cons_zero, List.set_cons_succ])
                refine wpAnyB_ready (rs := [20]) (by kernel_rfl) (by simp) ?_
                refine AllReadyB.cons rfl (fun K hK => ?_) AllReadyB.nil
                go_simp
                refine hK.out _ _ ((World.cell?_alloc_lt _ _ _ (Nat.lt_of_lt_of_le hbl hzE)).trans hSE) (fun _ => (World.cell?_alloc_lt _ _ _ (Nat.lt_of_lt_of_le hb2l hzE)).trans hTE) ?_
                clear hK K
                (try simp only [Act.put, List.setIfInBounds_toArray, List.set_cons_zero, List.set_cons_succ])
                refine wpAnyB_ready (rs := [21]) (by kernel_rfl) (by simp) ?_
                refine AllReadyB.cons rfl (fun K hK => ?_) AllReadyB.nil
                refine step_push1 (P := Try.prog) rfl _ _ 94 rfl j0 _ 16 Try.underlying94 HJ.out HJ0.out HJ1.out HJ2.out rfl (by decide) TyR_len' TyR_mono' (by rfl) HOE.out ⟨x, y⟩ 37 [.int .i64 x, .int .i64 y] [] _ (by rfl) rfl (by simp [Value.oneCell']) ⟨rfl, rfl⟩ (Under.nil _) (fun _ _ h => by cases h) hmx hby (Nat.zero_le _) ?_
                intro g' cp w7 hown7 hgr7 hat7
                have nb : some b ≠ (Value.slice aA xs[d].ctors[0].args.length acap).ownBlock := fun e => (HROW.out b (mem_rowOf.2 e.symm)).2.1 rfl
                have nb2 : some b2 ≠ (Value.slice aA xs[d].ctors[0].args.length acap).ownBlock := fun e => (HROW.out b2 (mem_rowOf.2 e.symm)).2.2.1 rfl
                have l7 : w6.heap.size ≤ (w6.alloc (.cells #[.int .i64 x, .int .i64 y] 37)).heap.size := by rw [World.size_alloc]; exact Nat.le_succ _
                have l8 : b < w6.heap.size := Nat.lt_of_lt_of_le hbl hzE
                have l9 : b2 < w6.heap.size := Nat.lt_of_lt_of_le hb2l hzE
                have s7 : w7.cell? ⟨b, off + d * 2 + 1, none⟩ = some (.slice (some ⟨b2, off2, none⟩) xs[d].ctors.length cap2) := (World.grownBy.cell_far hgr7 ⟨b, off + d * 2 + 1, none⟩ (Nat.lt_of_lt_of_le l8 l7) nb).trans ((World.cell?_alloc_lt _ _ _ l8).trans hSE)
                have t7 : w7.cell? ⟨b2, off2 + 1, none⟩ = some (.slice aA xs[d].ctors[0].args.length acap) := (World.grownBy.cell_far hgr7 ⟨b2, off2 + 1, none⟩ (Nat.lt_of_lt_of_le l9 l7) nb2).trans ((World.cell?_alloc_lt _ _ _ l9).trans hTE)
                have f7 : w7.frozen? ⟨b2, off2 + 1, none⟩ = false := (World.grownBy.frozen_far hgr7 ⟨b2, off2 + 1, none⟩ (Nat.lt_of_lt_of_le l9 l7) nb2).trans (Eq.trans (World.frozen?_of_block (Below.heap_alloc _ _ _ l9)) hfE)
                have HFin := Lib.hid (HFE.out g' cp w7 _ hown7 hgr7 hat7)
                refine hK.out _ _ s7 (fun _ => t7) ?_
                clear hK K
                (try simp only [Act.put, List.setIfInBounds_toArray, List.set_cons_zero, List.set_cons_succ])
                refine wpAnyB_take (i := 22) (v := ?_) rfl (by decide) (by kernel_rfl) (by kernel_rfl) (by kernel_rfl) (fun _ _ _ h => h) (Or.inl ⟨by rfl, ?hy22⟩) s7 (fun _ => t7) ?_
                case hy22 => (intro W hSw; (try dsimp only at hSw); go_simp; try with_reducible rfl)
                (try simp only [Act.put, List.setIfInBounds_toArray, List.set_cons_zero, List.set_cons_succ])
                refine wpAnyB_take (i := 23) (v := ?_) rfl (by decide) (by kernel_rfl) (by kernel_rfl) (by kernel_rfl) (fun _ _ _ h => h) (Or.inl ⟨by rfl, ?hy23⟩) s7 (fun _ => t7) ?_
                case hy23 => (intro W hSw; (try dsimp only at hSw); go_simp; try with_reducible rfl)
                (try simp only [Act.put, List.setIfInBounds_toArray, List.set_cons_zero, List.set_cons_succ])
                refine wpAnyB_ready (rs := [24]) (by kernel_rfl) (by simp) ?_
                refine AllReadyB.cons rfl (fun K hK => ?_) AllReadyB.nil
                go_simp
                refine hK.out _ _ ((World.cell?_setCell_far _ _ _ _ (by show b2 ≠ b; exact fun e => hbb e.symm)).trans s7) (fun h => by cases h) ?_
                clear hK K
                (try simp only [Act.put, List.setIfInBounds_toArray, List.set_cons_zero, List.set_cons_succ])
                refine wpAnyB_end (by kernel_rfl) ?_
                clear hS1 hT1 hSE hTE HOE hzE hfE HFE nb nb2 l7 l8 l9 s7 t7 f7 hown7 hgr7 hat7 HH HOWN HROW f3 kc c1 hmx hby
                go_wp2
                go_ret
                exact HFin.out
            · go_simp
              refine hK.out _ _ (((Chg.refl [g] wd).alloc _).cell hbl hbg |>.trans kc) (fun _ => ((Chg.refl [g] wd).alloc _).cell hb2l hb2g |>.trans c1) ?_
              clear hK K
              (try simp only [Act.put, List.setIfInBounds_toArray, List.set_cons_zero, List.set_cons_succ])
              refine wpAnyB_ready (rs := [14]) (by kernel_rfl) (by simp) ?_
              refine AllReadyB.cons rfl (fun K hK => ?_) AllReadyB.nil
              go_simp
              refine hK.out _ _ ((((Chg.refl [g] wd).alloc _).alloc _).cell hbl hbg |>.trans kc) (fun _ => (((Chg.refl [g] wd).alloc _).alloc _).cell hb2l hb2g |>.trans c1) ?_
              clear hK K
              (try simp only [Act.put, List.setIfInBounds_toArray, List.set_cons_zero, List.set_cons_succ])
              refine wpAnyB_ready (rs := [15]) (by kernel_rfl) (by simp) ?_
              refine AllReadyB.cons rfl (fun K hK => ?_) AllReadyB.nil
              go_simp
              go_at_call 158
              refine (num_at (LitN.new2 wd _ [9, -2, 0, -1] (by decide)) (by decide) (by decide) (p + 1 + 1) g ((HRD.out.below ((Below.refl _ _).alloc (Nat.le_refl _) _)).below ((Below.refl _ _).alloc (Nat.le_refl _) _)) (by omega) hgs1).mono ?_
              rintro e w5 ⟨x, rfl, hRw5, hCw5⟩
              have hC5 : Chg [g] wd w5 := (((Chg.refl [g] wd).alloc _).alloc _).trans hCw5
              have hLB : LitN w5 wd.heap.size [0, 4, -1, -2] := ((LitN.new wd [0, 4, -1, -2] (by decide)).alloc _).chg hCw5 (by rw [List.mem_singleton]; exact hgs)
              dsimp only
              refine hK.out _ _ (((hC5).cell hbl hbg).trans kc) (fun _ => ((hC5).cell hb2l hb2g).trans c1) ?_
              clear hK K
              (try simp only [Act.put, List.setIfInBounds_toArray, List.set_cons_zero, List.set_cons_succ])
              refine wpAnyB_ready (rs := [18]) (by kernel_rfl) (by simp) ?_
              refine AllReadyB.cons rfl (fun K hK => ?_) AllReadyB.nil
              go_simp
              go_at_call 158
              refine (num_at hLB (by decide) (by decide) (p + 1 + 1 + 1) g hRw5 (by omega) hgs).mono ?_
              rintro e w6 ⟨y, rfl, hRw6, hCw6⟩
              have hC6 : Chg [g] wd w6 := hC5.trans hCw6
              have hSE : w6.cell? ⟨b, off + d * 2 + 1, none⟩ = some (.slice (some ⟨b2, off2, none⟩) xs[d].ctors.length cap2) := ((hC6).cell hbl hbg).trans kc
              have hTE : w6.cell? ⟨b2, off2 + 1, none⟩ = some (.slice aA xs[d].ctors[0].args.length acap) := ((hC6).cell hb2l hb2g).trans c1
              have HOE : Hid (Own w6 0 37 2 TyR xs[d].ctors[0].args (.slice aA xs[d].ctors[0].args.length acap) []) := HOWN.out.mono0 (w' := w6) (fun x cs G (h : TyR wd x cs G) => (h : TyR w6 x cs G)) ((hC6).kept (fun x hx => (HROW.out x hx).2.2.2) (fun x hx => (HROW.out x hx).1))
              have hzE : wd.heap.size ≤ w6.heap.size := (hC6).size
              have hfE : w6.frozen? ⟨b2, off2 + 1, none⟩ = false := (World.frozen?_of_block (a := ⟨b2, off2 + 1, none⟩) ((hC6).block _ hb2l hb2g)).trans f3
              have hFinE := HH.out w6 (p + 1 + 1 + 1 + 1) ⟨x, y⟩
              have HFE := Lib.hid (fun g' c' w3' o => hFinE g' c' w3' o hRw6 (hC6) (by omega))
              clear hFinE
              dsimp only
              refine hK.out _ _ hSE (fun _ => hTE) ?_
              clear hK K
              (try simp only [Act.put, List.setIfInBounds_toArray, List.set_cons_zero, List.set_cons_succ])
              refine wpAnyB_take (i := 19) (v := ?_) rfl (by decide) (by kernel_rfl) (by kernel_rfl) (by kernel_rfl) (fun _ _ _ h => h) (Or.inl ⟨by rfl, ?hy19⟩) hSE (fun _ => hTE) ?_
              case hy19 => (intro W hSw; (try dsimp only at hSw); go_simp; try with_reducible rfl)
              (try simp only [Act.put, List.setIfInBounds_toArray, List.set_cons_zero, List.set_cons_succ])
              refine wpAnyB_ready (rs := [20]) (by kernel_rfl) (by simp) ?_
              refine AllReadyB.cons rfl (fun K hK => ?_) AllReadyB.nil
              go_simp
              refine hK.out _ _ ((World.cell?_alloc_lt _ _ _ (Nat.lt_of_lt_of_le hbl hzE)).trans hSE) (fun _ => (World.cell?_alloc_lt _ _ _ (Nat.lt_of_lt_of_le hb2l hzE)).trans hTE) ?_
              clear hK K
              (try simp only [Act.put, List.setIfInBounds_toArray, List.set_cons_zero, List.set_cons_succ])
              refine wpAnyB_ready (rs := [21]) (by kernel_rfl) (by simp) ?_
              refine AllReadyB.cons rfl (fun K hK => ?_) AllReadyB.nil
              refine step_push1 (P := Try.prog) rfl _ _ 94 rfl j0 _ 16 Try.underlying94 HJ.out HJ0.out HJ1.out HJ2.out rfl (by decide) TyR_len' TyR_mono' (by rfl) HOE.out ⟨x, y⟩ 37 [.int .i64 x, .int .i64 y] [] _ (by rfl) rfl (by simp [Value.oneCell']) ⟨rfl, rfl⟩ (Under.nil _) (fun _ _ h => by cases h) hmx hby (Nat.zero_le _) ?_
              intro g' cp w7 hown7 hgr7 hat7
              have nb : some b ≠ (Value.slice aA xs[d].ctors[0].args.length acap).ownBlock := fun e => (HROW.out b (mem_rowOf.2 e.symm)).2.1 rfl
              have nb2 : some b2 ≠ (Value.slice aA xs[d].ctors[0].args.length acap).ownBlock := fun e => (HROW.out b2 (mem_rowOf.2 e.symm)).2.2.1 rfl
              have l7 : w6.heap.size ≤ (w6.alloc (.cells #[.int .i64 x, .int .i64 y] 37)).heap.size := by rw [World.size_alloc]; exact Nat.le_succ _
              have l8 : b < w6.heap.size := Nat.lt_of_lt_of_le hbl hzE
              have l9 : b2 < w6.heap.size := Nat.lt_of_lt_of_le hb2l hzE
              have s7 : w7.cell? ⟨b, off + d * 2 + 1, none⟩ = some (.slice (some ⟨b2, off2, none⟩) xs[d].ctors.length cap2) := (World.grownBy.cell_far hgr7 ⟨b, off + d * 2 + 1, none⟩ (Nat.lt_of_lt_of_le l8 l7) nb).trans ((World.cell?_alloc_lt _ _ _ l8).trans hSE)
              have t7 : w7.cell? ⟨b2, off2 + 1, none⟩ = some (.slice aA xs[d].ctors[0].args.length acap) := (World.grownBy.cell_far hgr7 ⟨b2, off2 + 1, none⟩ (Nat.lt_of_lt_of_le l9 l7) nb2).trans ((World.cell?_alloc_lt _ _ _ l9).trans hTE)
              have f7 : w7.frozen? ⟨b2, off2 + 1, none⟩ = false := (World.grownBy.frozen_far hgr7 ⟨b2, off2 + 1, none⟩ (Nat.lt_of_lt_of_le l9 l7) nb2).trans (Eq.trans (World.frozen?_of_block (Below.heap_alloc _ _ _ l9)) hfE)
              have HFin := Lib.hid (HFE.out g' cp w7 _ hown7 hgr7 hat7)
              refine hK.out _ _ s7 (fun _ => t7) ?_
              clear hK K
              (try simp only [Act.put, List.setIfInBounds_toArray, List.set_cons_zero, List.set_cons_succ])
              refine wpAnyB_take (i := 22) (v := ?_) rfl (by decide) (by kernel_rfl) (by kernel_rfl) (by kernel_rfl) (fun _ _ _ h => h) (Or.inl ⟨by rfl, ?hy22⟩) s7 (fun _ => t7) ?_
              case hy22 => (intro W hSw; (try dsimp only at hSw); go_simp; try with_reducible rfl)
              (try simp only [Act.put, List.setIfInBounds_toArray, List.set_cons_zero, List.set_cons_succ])
              refine wpAnyB_take (i := 23) (v := ?_) rfl (by decide) (by kernel_rfl) (by kernel_rfl) (by kernel_rfl) (fun _ _ _ h => h) (Or.inl ⟨by rfl, ?hy23⟩) s7 (fun _ => t7) ?_
              case hy23 => (intro W hSw; (try dsimp only at hSw); go_simp; try with_reducible rfl)
              (try simp only [Act.put, List.setIfInBounds_toArray, List.set_cons_zero, List.set_cons_succ])
              refine wpAnyB_ready (rs := [24]) (by kernel_rfl) (by simp) ?_
              refine AllReadyB.cons rfl (fun K hK => ?_) AllReadyB.nil
              go_simp
              refine hK.out _ _ ((World.cell?_setCell_far _ _ _ _ (by show b2 ≠ b; exact fun e => hbb e.symm)).trans s7) (fun h => by cases h) ?_
              clear hK K
              (try simp only [Act.put, List.setIfInBounds_toArray, List.set_cons_zero, List.set_cons_succ])
              refine wpAnyB_end (by kernel_rfl) ?_
              clear hS1 hT1 hSE hTE HOE hzE hfE HFE nb nb2 l7 l8 l9 s7 t7 f7 hown7 hgr7 hat7 HH HOWN HROW f3 kc c1 hmx hby
              go_wp2
              go_ret
              exact HFin.out
          | false =>
            cases c4q : ((r : Int) == 4) with
            | true =>
              have hCd := HC3.out.drew
              clear HC3
              obtain ⟨b2, off2, cap2, aA, acap, kc, hbb, hbg, hb2g, hbl, hb2l, hz2, c0, c1, c2, hown, hrow, hal, H2, H4, H3⟩ := hCd.ctor (p := p) h0 HSM.out hd hk0
              have HH := Lib.hid H4
              have hR3 := Lib.hid hCd.rd
              have f3 := hz2 (off2 + 2)
              clear c0 c1 hown hrow hal H2 H4 H3 hCd hz2
              go_wp2_with fail
              refine wp_region_B (S := fun w' => w'.cell? ⟨b, off + d * 2 + 1, none⟩ = some (.slice (some ⟨b2, off2, none⟩) xs[d].ctors.length cap2)) (T := fun _ => True) (d := 10) (by kernel_rfl) ?_
              generalize w3.drew = wd at *
              have hS1 : wd.cell? ⟨b, off + d * 2 + 1, none⟩ = some (.slice (some ⟨b2, off2, none⟩) xs[d].ctors.length cap2) := kc
              have hT1 : True := trivial
              refine wpAnyB_take (i := 0) (v := ?_) rfl (by decide) (by kernel_rfl) (by kernel_rfl) (by kernel_rfl) (fun _ _ _ h => h) (Or.inl ⟨by rfl, ?hy0⟩) hS1 (fun _ => hT1) ?_
              case hy0 => (intro W hSw; (try dsimp only at hSw); go_simp; try with_reducible rfl)
              (try simp only [Act.put, List.setIfInBounds_toArray, List.set_cons_zero, List.set_cons_succ])
              refine wpAnyB_take (i := 1) (v := ?_) rfl (by decide) (by kernel_rfl) (by kernel_rfl) (by kernel_rfl) (fun _ _ _ h => h) (Or.inl ⟨by rfl, ?hy1⟩) hS1 (fun _ => hT1) ?_
              case hy1 => (intro W hSw; (try dsimp only at hSw); go_simp; try with_reducible rfl)
              (try simp only [Act.put, List.setIfInBounds_toArray, List.set_cons_zero, List.set_cons_succ])
              refine wpAnyB_take (i := 2) (v := ?_) rfl (by decide) (by kernel_rfl) (by kernel_rfl) (by kernel_rfl) (fun _ _ _ h => h) (Or.inl ⟨by rfl, ?hy2⟩) hS1 (fun _ => hT1) ?_
              case hy2 => (intro W hSw; (try dsimp only at hSw); go_simp; try with_reducible rfl)
              (try simp only [Act.put, List.setIfInBounds_toArray, List.set_cons_zero, List.set_cons_succ])
              refine wpAnyB_take (i := 3) (v := ?_) rfl (by decide) (by kernel_rfl) (by kernel_rfl) (by kernel_rfl) (fun _ _ _ h => h) (Or.inl ⟨by rfl, ?hy3⟩) hS1 (fun _ => hT1) ?_
              case hy3 => (intro W hSw; (try dsimp only at hSw); go_simp; try with_reducible rfl)
              (try simp only [Act.put, List.setIfInBounds_toArray, List.set_cons_zero, List.set_cons_succ])
              refine wpAnyB_take (i := 4) (v := ?_) rfl (by decide) (by kernel_rfl) (by kernel_rfl) (by kernel_rfl) (fun _ _ _ h => h) (Or.inl ⟨by rfl, ?hy4⟩) hS1 (fun _ => hT1) ?_
              case hy4 => (intro W hSw; (try dsimp only at hSw); go_simp; try with_reducible rfl)
              (try simp only [Act.put, List.setIfInBounds_toArray, List.set_cons_zero, List.set_cons_succ])
              refine wpAnyB_take (i := 5) (v := ?_) rfl (by decide) (by kernel_rfl) (by kernel_rfl) (by kernel_rfl) (fun _ _ _ h => h) (Or.inl ⟨by rfl, ?hy5⟩) hS1 (fun _ => hT1) ?_
              case hy5 => (intro W hSw; (try dsimp only at hSw); go_simp; try with_reducible rfl)
              (try simp only [Act.put, List.setIfInBounds_toArray, List.set_cons_zero, List.set_cons_succ])
              refine wpAnyB_ready (rs := [6]) (by kernel_rfl) (by simp) ?_
              refine AllReadyB.cons rfl (fun K hK => ?_) AllReadyB.nil
              go_simp
              refine hK.out _ _ ((World.cell?_alloc_lt _ _ _ hbl).trans kc) (fun _ => trivial) ?_
              clear hK K
              (try simp only [Act.put, List.setIfInBounds_toArray, List.set_cons_zero, List.set_cons_succ])
              refine wpAnyB_ready (rs := [7]) (by kernel_rfl) (by simp) ?_
              refine AllReadyB.cons rfl (fun K hK => ?_) AllReadyB.nil
              go_simp
              go_at_call 158
              refine (num_lit [4, -1, 1] (by decide) (by decide) (p + 1 + 1) g wd hR3.out (by omega)).mono ?_
              rintro e w4 ⟨s, hs, rfl, hR4, hC4⟩
              have hC5 := hC4
              have hS4 : w4.cell? ⟨b, off + d * 2 + 1, none⟩ = some (.slice (some ⟨b2, off2, none⟩) xs[d].ctors.length cap2) := (hC5.cell hbl hbg).trans kc
              have x4 : w4.cell? ⟨b2, off2 + 2, none⟩ = some (.int .i64 xs[d].ctors[0].idx) := (hC5.cell hb2l hb2g).trans c2
              have f4 : w4.frozen? ⟨b2, off2 + 2, none⟩ = false := (World.frozen?_of_block (a := ⟨b2, off2 + 2, none⟩) (hC5.block _ hb2l hb2g)).trans f3
              have HFin := Lib.hid (HH.out w4 _ s hR4 hC5 (by omega))
              dsimp only
              refine hK.out _ _ hS4 (fun _ => trivial) ?_
              clear hK K
              (try simp only [Act.put, List.setIfInBounds_toArray, List.set_cons_zero, List.set_cons_succ])
              refine wpAnyB_take (i := 8) (v := ?_) rfl (by decide) (by kernel_rfl) (by kernel_rfl) (by kernel_rfl) (fun _ _ _ h => h) (Or.inl ⟨by rfl, ?hy8⟩) hS4 (fun _ => hT1) ?_
              case hy8 => (intro W hSw; (try dsimp only at hSw); go_simp; try with_reducible rfl)
              (try simp only [Act.put, List.setIfInBounds_toArray, List.set_cons_zero, List.set_cons_succ])
              refine wpAnyB_take (i := 9) (v := ?_) rfl (by decide) (by kernel_rfl) (by kernel_rfl) (by kernel_rfl) (fun _ _ _ h => h) (Or.inl ⟨by rfl, ?hy9⟩) hS4 (fun _ => hT1) ?_
              case hy9 => (intro W hSw; (try dsimp only at hSw); go_simp; try with_reducible rfl)
              (try simp only [Act.put, List.setIfInBounds_toArray, List.set_cons_zero, List.set_cons_succ])
              refine wpAnyB_ready (rs := [10]) (by kernel_rfl) (by simp) ?_
              refine AllReadyB.cons rfl (fun K hK => ?_) AllReadyB.nil
              go_simp
              refine hK.out _ _ ((World.cell?_setCell_far _ _ _ _ (by show b2 ≠ b; exact fun e => hbb e.symm)).trans hS4) (fun _ => trivial) ?_
              clear hK K
              (try simp only [Act.put, List.setIfInBounds_toArray, List.set_cons_zero, List.set_cons_succ])
              refine wpAnyB_end (by kernel_rfl) ?_
              clear hS1 hT1 hS4 x4 f4 hC5 hC4 hR4 HH hR3 f3 kc c2
              go_wp2
              go_ret
              exact HFin.out
            | false =>
              cases c5q : ((r : Int) == 5) with
              | true =>
                obtain ⟨kA, kcap, F2, n0, k0, z0, hb, hbl, hk1, hk2, hdx, hF2, hname, hctors⟩ := HC3.out.data (p := p) h0 HSM.out hd
                have HDX := Lib.hid hdx
                have HF2 := Lib.hid hF2
                have hbs : w.heap.size ≤ w3.heap.size := HC3.out.chg.size
                clear z0 hdx hF2 hname hctors
                go_wp2_with (at_builtin; refine Halt.mk ?_)
                refine Halt.of (wpList_push1 (P := Try.prog) rfl _ _ 35 rfl m0 _ 40 Try.underlying35 HM.out HM0.out HM1.out HM2.out rfl (by decide) DtO_len DtO_mono (by rfl) HC3.out.own xs[d] 112 [.string xs[d].name, .slice kA xs[d].ctors.length kcap] F2 _ (by rfl) rfl (by simp [Value.oneCell']) HDX.out (fun x hx => (HF2.out x hx).2.2) (fun x hx hG => (HF2.out x hG).1 (by rw [rowOf_some, List.mem_singleton] at hx; exact hx)) (by unfold maxLen; omega) (by omega) hbs ?_)
                intro g' cp w7 hown7 hgr7 hat7
                have HFin := Lib.hid (HC3.out.twice (p := p) h0 HSM.out hd (fun x hx => (HF2.out x hx).2.1) rfl hown7 hgr7 (by omega))
                clear hown7 hgr7 hat7 n0 k0 hk1 hk2 HDX HF2 HC3
                go_wp2
                go_ret
                exact HFin.out
              | false =>
                have HFin := Lib.hid (HC3.out.done (p := p) h0 HSM.out (by omega))
                clear HC3
                go_wp2
                go_ret
                exact HFin.out
end Go.Proofs.Ytbffkgfhcmigaaa

namespace Go.Proofs.Ytbffkgfhcmigaaa
open Go.RowKit

theorem results_tmp_cell_row {P : Program} {fn : Func} {u p : Tmp} {ty : TypeId} (h : fn.results = #[.tmp u, .cell p ty]) (tmps : Array Value) (w : World) (g : Nat) (t : TypeId) (cs : Array Value) (fr : Nat × Nat) (d : TypeDesc)
    (hp : tmps.getD p undef = .pointer (some ⟨g, 0, none⟩)) (hg : w.heap[g]? = some (.cells cs t fr))
    (hu : P.underlying ty = some d) (hd : (match d with | .struct _ | .array _ _ => true | _ => false) = true) (hi : (P.info? ty).map (·.size) = some cs.size) :
    (results fn tmps).run P w = .ok (.tuple #[tmps.getD u undef, .agg cs]) w := by
  have hp' : tmps[p]?.getD undef = .pointer (some ⟨g, 0, none⟩) := by simpa using hp
  simp [results, h, hp', asAddr, run_loadVar_row w g t ty cs fr d hg hu hd hi]
theorem results_tmp_cell_tmp {P : Program} {fn : Func} {u p v : Tmp} {ty : TypeId} (h : fn.results = #[.tmp u, .cell p ty, .tmp v]) (tmps : Array Value) (w : World) (g : Nat) (t : TypeId) (cs : Array Value) (fr : Nat × Nat) (d : TypeDesc)
    (hp : tmps.getD p undef = .pointer (some ⟨g, 0, none⟩)) (hg : w.heap[g]? = some (.cells cs t fr))
    (hu : P.underlying ty = some d) (hd : (match d with | .struct _ | .array _ _ => true | _ => false) = true) (hi : (P.info? ty).map (·.size) = some cs.size) :
    (results fn tmps).run P w = .ok (.tuple #[tmps.getD u undef, .agg cs, tmps.getD v undef]) w := by
  have hp' : tmps[p]?.getD undef = .pointer (some ⟨g, 0, none⟩) := by simpa using hp
  simp [results, h, hp', asAddr, run_loadVar_row w g t ty cs fr d hg hu hd hi]
/-- a world of the call's own -/
def DrewW (w : World) (e : Ending) (w' : World) : Prop := ∃ xs v F, e = .returned v ∧ Below w.heap.size w w' ∧ Arr w' (DtR w') xs v F ∧ Fresh w w' F
/-- a world and a type -/
def DrewWT (w : World) (e : Ending) (w' : World) : Prop := ∃ xs v F, ∃ t : Ty, e = .returned (.tuple #[v, .agg #[.int .i64 t.d, .int .i64 t.i]]) ∧ Below w.heap.size w w' ∧ Arr w' (DtR w') xs v F ∧ Fresh w w' F
/-- a world, a type and a number -/
def DrewWTN (w : World) (e : Ending) (w' : World) : Prop := ∃ xs v F, ∃ t : Ty, ∃ n : Int, e = .returned (.tuple #[v, .agg #[.int .i64 t.d, .int .i64 t.i], .int .i64 n]) ∧ Below w.heap.size w w' ∧ Arr w' (DtR w') xs v F ∧ Fresh w w' F

theorem Chg.low {g B : Nat} {w w' : World} (h : Chg [g] w w') (hg : B ≤ g) (hB : B ≤ w.heap.size) : Below B w w' := h.below (fun b hb => by rw [List.mem_singleton] at hb; omega) hB

/-- two worlds -/
def DrewWW (w : World) (e : Ending) (w' : World) : Prop := ∃ xs v F ys v2 F2, e = .returned (.tuple #[v, v2]) ∧ Below w.heap.size w w' ∧ Arr w' (DtR w') xs v F ∧ Under w'.heap.size F ∧ Arr w' (DtR w') ys v2 F2 ∧ Under w'.heap.size F2
set_option maxRecDepth 100000 in
set_option maxHeartbeats 1600000 in
theorem spec_l1Two (bs : List Int) (w : World) (v : Value) (F : List Nat) (hx : Arr w (ByR w) bs v F) (hf : Under w.heap.size F) :
    Calls Try.prog 121 #[v] w (DrewWT w) := by
  have hb1 : Below w.heap.size w (w.alloc (.cells #[.int .i64 0, .int .i64 0] 37)) := (Below.refl _ _).alloc (Nat.le_refl _) _
  have HX1 : Hid (Arr (w.alloc (.cells #[.int .i64 0, .int .i64 0] 37)) (ByR (w.alloc (.cells #[.int .i64 0, .int .i64 0] 37))) bs v F) := ArrBy.mono hx (.of_below hb1 hf)
  have HU1 : Hid (Under (w.alloc (.cells #[.int .i64 0, .int .i64 0] 37)).heap.size F) := hf.mono hb1.size
  have KH1 : Hid (Blk (w.alloc (.cells #[.int .i64 0, .int .i64 0] 37)) w.heap.size 37 #[.int .i64 0, .int .i64 0]) := Blk.new _ _ _
  have hs1 : (w.alloc (.cells #[.int .i64 0, .int .i64 0] 37)).heap.size = w.heap.size + 1 := World.size_alloc _ _
  clear hx hf
  go_enter Try.func121, Try.ntmps121
  go_wp2_with fail
  generalize w.alloc (.cells #[.int .i64 0, .int .i64 0] 37) = w1 at *
  refine (spec_l17Open bs w1 v F HX1.out HU1.out).mono ?_
  rintro e w2 ⟨g, rfl, hge, hb2, hR2⟩
  have HR2 := Lib.hid hR2
  have hB2 : Below w.heap.size w w2 := hb1.trans (hb2.mono hb1.size)
  have KH2 := Lib.hid (KH1.out.same (hb2.block _ KH1.out.lt))
  have hgl := hR2.lt
  clear hR2 hb2 KH1 HX1 HU1
  go_wp2_with fail
  refine (spec_l1World 0 g w2 HR2.out (by omega)).mono ?_
  rintro e w3 ⟨xs, v3, F3, q3, rfl, ⟨hok, h0⟩, ha3, hfs3, hR3, hq3, hC3⟩
  have hW := worldOK hok
  have hlen := hW.len
  have HSM := Lib.hid (SmallW.of hW)
  have HR3 := Lib.hid hR3
  have HA3 := Lib.hid ha3
  have HF3 := Lib.hid hfs3
  have hB3 : Below w.heap.size w w3 := hB2.trans (hC3.low (by omega) hB2.size)
  have KH3 := Lib.hid (KH2.out.same (hC3.block _ KH2.out.lt (by simp; omega)))
  have hz3 := hC3.size
  obtain ⟨A3, cap3, rfl, hc1, hc2⟩ := ha3.form
  clear hR3 ha3 hfs3 hC3 hok hW KH2 HR2
  go_wp2_with fail
  refine (spec_l1Some q3 g w3 HR3.out (by omega) A3 xs.length cap3 h0 (by omega)).mono ?_
  rintro e w4 ⟨t, q4, rfl, hR4, hq4, hC4⟩
  have HR4 := Lib.hid hR4
  have HA4 : Hid (Arr w4 (DtR w4) xs (.slice A3 xs.length cap3) F3) := HA3.out.mono (hC4.kept HF3.out.under (fun b hb => by have := (HF3.out b hb).1; simp; omega)) fun y _ cs G hk h => DtR.mono (w := w3) (w' := w4) y cs G hk h
  have HU4 : Hid (Under w4.heap.size F3) := HF3.out.under.mono hC4.size
  have hB4 : Below w.heap.size w w4 := hB3.trans (hC4.low (by omega) hB3.size)
  have KH4 := Lib.hid (KH3.out.same (hC4.block _ KH3.out.lt (by simp; omega)))
  have hz4 := hC4.size
  clear hR4 hC4 KH3 HA3 HR3
  go_wp2_with fail
  have hb5 : Below w4.heap.size w4 (w4.alloc (.cells #[.int .i64 t.d, .int .i64 t.i] 37)) := (Below.refl _ _).alloc (Nat.le_refl _) _
  have HR5 : Hid (Rd (w4.alloc (.cells #[.int .i64 t.d, .int .i64 t.i] 37)).drew g q4) := HR4.out.below hb5.drew
  have HA5 : Hid (Arr (w4.alloc (.cells #[.int .i64 t.d, .int .i64 t.i] 37)).drew (DtR (w4.alloc (.cells #[.int .i64 t.d, .int .i64 t.i] 37)).drew) xs (.slice A3 xs.length cap3) F3) := ArrDt.drew (ArrDt.below HA4.out hb5 HU4.out)
  have HU5 : Hid (Under (w4.alloc (.cells #[.int .i64 t.d, .int .i64 t.i] 37)).drew.heap.size F3) := HU4.out.mono hb5.size
  have hB5 : Below w.heap.size w (w4.alloc (.cells #[.int .i64 t.d, .int .i64 t.i] 37)).drew := (hB4.trans (hb5.mono hB4.size)).drew
  have KH5 : Hid (Blk (w4.alloc (.cells #[.int .i64 t.d, .int .i64 t.i] 37)).drew w.heap.size 37 #[.int .i64 0, .int .i64 0]) := KH4.out.same (hb5.block _ KH4.out.lt)
  have KK5 : Hid (Blk (w4.alloc (.cells #[.int .i64 t.d, .int .i64 t.i] 37)).drew w4.heap.size 37 #[.int .i64 t.d, .int .i64 t.i]) := Blk.new _ _ _
  have hz5 : w4.heap.size < (w4.alloc (.cells #[.int .i64 t.d, .int .i64 t.i] 37)).drew.heap.size := KK5.out.lt
  have hz6 : w2.heap.size ≤ (w4.alloc (.cells #[.int .i64 t.d, .int .i64 t.i] 37)).drew.heap.size := by omega
  have HKg : Hid (w4.heap.size ≠ g ∧ w.heap.size ≠ g ∧ w.heap.size ≠ w4.heap.size) := ⟨by omega, by omega, by omega⟩
  refine wp_region_B (S := fun w' => w'.cell? ⟨w4.heap.size, 0, none⟩ = some (.int .i64 t.d) ∧ w'.cell? ⟨w4.heap.size, 1, none⟩ = some (.int .i64 t.i)) (T := fun _ => True) (d := 5) (by kernel_rfl) ?_
  generalize (w4.alloc (.cells #[.int .i64 t.d, .int .i64 t.i] 37)).drew = wd at *
  generalize w4.heap.size = k at *
  clear hb5 HR4 HA4 HU4 hB4 KH4 HF3
  have hS1 : wd.cell? ⟨k, 0, none⟩ = some (.int .i64 t.d) ∧ wd.cell? ⟨k, 1, none⟩ = some (.int .i64 t.i) := ⟨(KK5.out.cell 0).trans (by simp), (KK5.out.cell 1).trans (by simp)⟩
  have hT1 : True := trivial
  refine wpAnyB_take (i := 3) (v := ?_) rfl (by decide) (by kernel_rfl) (by kernel_rfl) (by kernel_rfl) (fun _ _ _ h => h) (Or.inl ⟨by rfl, ?hy3⟩) hS1 (fun _ => hT1) ?_
  case hy3 => (intro W hSw; obtain ⟨hSa, hSb⟩ := hSw; (try dsimp only at hSa hSb); go_simp; try with_reducible rfl)
  (try simp only [Act.put, List.getElem_toArray, List.getElem_cons_zero, List.getElem_cons_succ, List.setIfInBounds_toArray, List.set_cons_zero, List.set_cons_succ])
  refine wpAnyB_take (i := 0) (v := ?_) rfl (by decide) (by kernel_rfl) (by kernel_rfl) (by kernel_rfl) (fun _ _ _ h => h) (Or.inl ⟨by rfl, ?hy0⟩) hS1 (fun _ => hT1) ?_
  case hy0 => (intro W hSw; (try dsimp only at hSw); go_simp; try with_reducible rfl)
  (try simp only [Act.put, List.getElem_toArray, List.getElem_cons_zero, List.getElem_cons_succ, List.setIfInBounds_toArray, List.set_cons_zero, List.set_cons_succ])
  refine wpAnyB_take (i := 1) (v := ?_) rfl (by decide) (by kernel_rfl) (by kernel_rfl) (by kernel_rfl) (fun _ _ _ h => h) (Or.inl ⟨by rfl, ?hy1⟩) hS1 (fun _ => hT1) ?_
  case hy1 => (intro W hSw; (try dsimp only at hSw); go_simp; try with_reducible rfl)
  (try simp only [Act.put, List.getElem_toArray, List.getElem_cons_zero, List.getElem_cons_succ, List.setIfInBounds_toArray, List.set_cons_zero, List.set_cons_succ])
  refine wpAnyB_ready (rs := [2]) (by kernel_rfl) (by simp) ?_
  refine AllReadyB.cons rfl (fun K hK => ?_) AllReadyB.nil
  go_simp
  go_at_call 116
  refine (spec_l1Mutate q4 g wd HR5.out (by omega) xs _ F3 HA5.out HU5.out h0 (by omega) 4 (by omega) HSM.out).mono ?_
  rintro e w6 ⟨ys, v6, F6, q6, rfl, -, ha6, hfs6, -, -, hC6⟩
  have hk6 : k ∉ [g] := by rw [List.mem_singleton]; exact HKg.out.1
  have hh6 : w.heap.size ∉ [g] := by rw [List.mem_singleton]; exact HKg.out.2.1
  have hS6 : w6.cell? ⟨k, 0, none⟩ = some (.int .i64 t.d) ∧ w6.cell? ⟨k, 1, none⟩ = some (.int .i64 t.i) := ⟨(hC6.cell hz5 hk6).trans hS1.1, (hC6.cell hz5 hk6).trans hS1.2⟩
  have KH6 : Blk w6 w.heap.size 37 #[.int .i64 0, .int .i64 0] := KH5.out.same (hC6.block _ KH5.out.lt hh6)
  have y0 : w6.cell? ⟨w.heap.size, 0, none⟩ = some (.int .i64 0) := (KH6.cell 0).trans (by simp)
  have y1 : w6.cell? ⟨w.heap.size, 1, none⟩ = some (.int .i64 0) := (KH6.cell 1).trans (by simp)
  have f0 := KH6.frozen 0
  have f1 := KH6.frozen 1
  have HS6 := Lib.hid hS6
  have hB6 : Below w.heap.size w w6 := hB5.trans (hC6.low (by omega) hB5.size)
  have hK7 : Blk ((w6.setCell ⟨w.heap.size, 0, none⟩ (.int .i64 t.d)).setCell ⟨w.heap.size, 1, none⟩ (.int .i64 t.i)) w.heap.size 37 #[.int .i64 t.d, .int .i64 t.i] := (KH6.set_ 0 _).set_ 1 _
  have hB7 : Below w.heap.size w ((w6.setCell ⟨w.heap.size, 0, none⟩ (.int .i64 t.d)).setCell ⟨w.heap.size, 1, none⟩ (.int .i64 t.i)) := (hB6.setCell (Nat.le_refl _) _).setCell (Nat.le_refl _) _
  have hhF : ∀ b ∈ F6, b ≠ w.heap.size := fun b hb e => by have := (hfs6 b hb).1; have := KH5.out.lt; omega
  have hA7 : Arr ((w6.setCell ⟨w.heap.size, 0, none⟩ (.int .i64 t.d)).setCell ⟨w.heap.size, 1, none⟩ (.int .i64 t.i)) (DtR ((w6.setCell ⟨w.heap.size, 0, none⟩ (.int .i64 t.d)).setCell ⟨w.heap.size, 1, none⟩ (.int .i64 t.i))) ys v6 F6 := ArrDt.mono ha6 (fun c hc => (Below.heap_setCell _ _ _ _ (hhF c hc)).trans (Below.heap_setCell _ _ _ _ (hhF c hc)))
  have hU7 : Fresh w ((w6.setCell ⟨w.heap.size, 0, none⟩ (.int .i64 t.d)).setCell ⟨w.heap.size, 1, none⟩ (.int .i64 t.i)) F6 := by
    have : ((w6.setCell ⟨w.heap.size, 0, none⟩ (.int .i64 t.d)).setCell ⟨w.heap.size, 1, none⟩ (.int .i64 t.i)).heap.size = w6.heap.size := by simp [World.setCell]
    exact fun b hb => ⟨Nat.le_trans hB5.size (hfs6 b hb).1, by rw [this]; exact (hfs6 b hb).2⟩
  have HFin : Hid (DrewWT w (.returned (.tuple #[v6, .agg #[.int .i64 t.d, .int .i64 t.i]])) ((w6.setCell ⟨w.heap.size, 0, none⟩ (.int .i64 t.d)).setCell ⟨w.heap.size, 1, none⟩ (.int .i64 t.i))) := ⟨ys, v6, F6, t, rfl, hB7, hA7, hU7⟩
  have HK7 := Lib.hid hK7
  clear hhF hA7 hU7 hB7 hK7 hB6 KH6 hC6 hfs6 ha6
  dsimp only
  refine hK.out _ _ hS6 (fun _ => trivial) ?_
  clear hK K
  (try simp only [Act.put, List.getElem_toArray, List.getElem_cons_zero, List.getElem_cons_succ, List.setIfInBounds_toArray, List.set_cons_zero, List.set_cons_succ])
  refine wpAnyB_take (i := 4) (v := ?_) rfl (by decide) (by kernel_rfl) (by kernel_rfl) (by kernel_rfl) (fun _ _ _ h => h) (Or.inl ⟨by rfl, ?hy4⟩) hS6 (fun _ => hT1) ?_
  case hy4 => (intro W hSw; (try dsimp only at hSw); go_simp; try with_reducible rfl)
  (try simp only [Act.put, List.getElem_toArray, List.getElem_cons_zero, List.getElem_cons_succ, List.setIfInBounds_toArray, List.set_cons_zero, List.set_cons_succ])
  refine wpAnyB_ready (rs := [5]) (by kernel_rfl) (by simp) ?_
  refine AllReadyB.cons rfl (fun K hK => ?_) AllReadyB.nil
  go_simp
  refine hK.out _ _ ⟨(World.cell?_setCell_far _ _ _ _ (by exact HKg.out.2.2)).trans ((World.cell?_setCell_far _ _ _ _ (by exact HKg.out.2.2)).trans HS6.out.1), (World.cell?_setCell_far _ _ _ _ (by exact HKg.out.2.2)).trans ((World.cell?_setCell_far _ _ _ _ (by exact HKg.out.2.2)).trans HS6.out.2)⟩ (fun _ => trivial) ?_
  clear hK K
  (try simp only [Act.put, List.getElem_toArray, List.getElem_cons_zero, List.getElem_cons_succ, List.setIfInBounds_toArray, List.set_cons_zero, List.set_cons_succ])
  refine wpAnyB_end (by kernel_rfl) ?_
  clear hS1 hT1 hS6 y0 y1 f0 f1
  go_wp2
  refine bodyPost_ret (results_tmp_cell_row rfl _ _ w.heap.size 37 #[.int .i64 t.d, .int .i64 t.i] (0, 0) _ rfl HK7.out Try.underlying37 rfl rfl) rfl ?_
  exact HFin.out
set_option maxRecDepth 100000 in
set_option maxHeartbeats 1600000 in
theorem spec_DrawLeastValue (bs : List Int) (w : World) (v : Value) (F : List Nat) (hx : Arr w (ByR w) bs v F) (hf : Under w.heap.size F) :
    Calls Try.prog 63 #[v] w (DrewWT w) := by
  have hb1 : Below w.heap.size w (w.alloc (.cells #[.int .i64 0, .int .i64 0] 37)) := (Below.refl _ _).alloc (Nat.le_refl _) _
  have HX1 : Hid (Arr (w.alloc (.cells #[.int .i64 0, .int .i64 0] 37)) (ByR (w.alloc (.cells #[.int .i64 0, .int .i64 0] 37))) bs v F) := ArrBy.mono hx (.of_below hb1 hf)
  have HU1 : Hid (Under (w.alloc (.cells #[.int .i64 0, .int .i64 0] 37)).heap.size F) := hf.mono hb1.size
  have KH1 : Hid (Blk (w.alloc (.cells #[.int .i64 0, .int .i64 0] 37)) w.heap.size 37 #[.int .i64 0, .int .i64 0]) := Blk.new _ _ _
  have hs1 : (w.alloc (.cells #[.int .i64 0, .int .i64 0] 37)).heap.size = w.heap.size + 1 := World.size_alloc _ _
  have HX0 := Lib.hid hx
  have HU0 := Lib.hid hf
  clear hx hf
  go_enter Try.func63, Try.ntmps63
  go_wp2_with fail
  generalize (w.alloc (.cells #[.int .i64 0, .int .i64 0] 37)) = w1 at *
  refine (spec_l1Two bs w1 v F HX1.out HU1.out).mono ?_
  rintro e w2 ⟨xs, v2, F2, t, rfl, hb2, ha2, hu2⟩
  have hB2 : Below w.heap.size w w2 := hb1.trans (hb2.mono hb1.size)
  have KH2 := KH1.out.same (hb2.block _ KH1.out.lt)
  have hns : ∀ c ∈ F2, c ≠ w.heap.size := fun c hc e => by have := (hu2 c hc).1; omega
  have y0 : w2.cell? ⟨w.heap.size, 0, none⟩ = some (.int .i64 0) := (KH2.cell 0).trans (by simp)
  have y1 : w2.cell? ⟨w.heap.size, 1, none⟩ = some (.int .i64 0) := (KH2.cell 1).trans (by simp)
  have f0 := KH2.frozen 0
  have f1 := KH2.frozen 1
  have HK7 : Hid (Blk ((w2.setCell ⟨w.heap.size, 0, none⟩ (.int .i64 t.d)).setCell ⟨w.heap.size, 1, none⟩ (.int .i64 t.i)) w.heap.size 37 #[.int .i64 t.d, .int .i64 t.i]) := (KH2.set_ 0 _).set_ 1 _
  have hB7 : Below w.heap.size w ((w2.setCell ⟨w.heap.size, 0, none⟩ (.int .i64 t.d)).setCell ⟨w.heap.size, 1, none⟩ (.int .i64 t.i)) := (hB2.setCell (Nat.le_refl _) _).setCell (Nat.le_refl _) _
  have hA7 : Arr ((w2.setCell ⟨w.heap.size, 0, none⟩ (.int .i64 t.d)).setCell ⟨w.heap.size, 1, none⟩ (.int .i64 t.i)) (DtR _) xs v2 F2 := ArrDt.mono ha2 (fun c hc => (Below.heap_setCell _ _ _ _ (hns c hc)).trans (Below.heap_setCell _ _ _ _ (hns c hc)))
  have hU7 : Fresh w ((w2.setCell ⟨w.heap.size, 0, none⟩ (.int .i64 t.d)).setCell ⟨w.heap.size, 1, none⟩ (.int .i64 t.i)) F2 := by
    have : ((w2.setCell ⟨w.heap.size, 0, none⟩ (.int .i64 t.d)).setCell ⟨w.heap.size, 1, none⟩ (.int .i64 t.i)).heap.size = w2.heap.size := by simp [World.setCell]
    exact fun b hb => ⟨by have := (hu2 b hb).1; omega, by rw [this]; exact (hu2 b hb).2⟩
  have HFin : Hid (DrewWT w (.returned (.tuple #[v2, .agg #[.int .i64 t.d, .int .i64 t.i]])) ((w2.setCell ⟨w.heap.size, 0, none⟩ (.int .i64 t.d)).setCell ⟨w.heap.size, 1, none⟩ (.int .i64 t.i))) := ⟨xs, v2, F2, t, rfl, hB7, hA7, hU7⟩
  clear hA7 hU7 hB7 ha2 hu2 hns KH2 hb2 KH1 HX1 HU1 HX0 HU0
  go_wp2
  refine bodyPost_ret (results_tmp_cell_row rfl _ _ w.heap.size 37 #[.int .i64 t.d, .int .i64 t.i] (0, 0) _ rfl HK7.out Try.underlying37 rfl rfl) rfl ?_
  exact HFin.out
end Go.Proofs.Ytbffkgfhcmigaaa

namespace Go.Proofs.Ytbffkgfhcmigaaa
open Go.RowKit

mutual
def V.depth : V → Nat
  | ⟨_, _, ks⟩ => V.depths ks + 1
def V.depths : List V → Nat
  | [] => 0
  | k :: ks => max (V.depth k) (V.depths ks)
end
theorem V.depths_snoc (l : List V) (x : V) : V.depths (l ++ [x]) = max (V.depths l) x.depth := by
  induction l with
  | nil => simp [V.depths]
  | cons k l ih => simp only [List.cons_append, V.depths, ih]; omega
theorem V.depths_le (ks : List V) (h : ∀ k ∈ ks, V.depth k ≤ V.size k + 1) : V.depths ks ≤ V.sizes ks := by
  induction ks with
  | nil => simp [V.depths]
  | cons k ks ih =>
    simp only [V.depths, V.sizes]
    have h1 := h k (by simp)
    have h2 := ih fun x hx => h x (by simp [hx])
    omega
theorem V.depth_le : ∀ v : V, v.depth ≤ v.size + 1 := V.ind fun c n ks ih => by
  simp only [V.depth, V.size]
  have := V.depths_le ks ih
  omega
theorem V.depths_take_succ (l : List V) (k : Nat) (h : k < l.length) : V.depths (l.take (k + 1)) = max (V.depths (l.take k)) l[k].depth := by
  rw [take_snoc' l k h, V.depths_snoc]
theorem V.sizes_mem (l : List V) (k : Nat) (h : k < l.length) : l[k].size + 1 ≤ V.sizes l := by
  have := V.size_lt l k h
  omega
theorem V.depths_take_le (l : List V) (k : Nat) : V.depths (l.take k) ≤ V.sizes l := by
  have h1 := V.depths_le (l.take k) (fun x _ => V.depth_le x)
  have h2 := V.sizes_eq (l.take k)
  have h3 := V.subs_take_le l k
  have h4 := V.sizes_eq l
  simp at h2
  omega

def DepthSpec (v : V) : Prop := ∀ (w : World) (cs : List Value) (F : List Nat), VR w v cs F → Under w.heap.size F → v.size ≤ 1048576 →
  Calls Try.prog 53 #[.agg cs.toArray] w fun e w' => e = .returned (.int .i64 v.depth) ∧ Below w.heap.size w w'

set_option maxHeartbeats 400000 in
theorem spec_DepthOf_all : ∀ v, DepthSpec v := V.ind fun c n ks ih w cs F hv hF hz => by
  obtain ⟨kv, rfl, hk⟩ := (VR_iff _ _ _).1 hv
  have hz' : V.sizes ks ≤ 1048576 := hz
  have hn : ks.length ≤ 1048576 := by rw [V.sizes_eq] at hz'; omega
  have HZ := Lib.hid hz'
  clear hz hz'
  have IH := Lib.hid ih
  clear ih hv
  obtain ⟨A, cap, rfl, -, -⟩ := hk.form
  have HK := Lib.hid hk
  clear hk
  have HF := Lib.hid hF
  clear hF
  go_enter Try.func53, Try.ntmps53
  go_wp2
  have hB0 : Below w.heap.size w (w.alloc (.cells #[.int .i64 c, .int .i64 n, .slice A ks.length cap] 41)) := (Below.refl _ _).alloc (Nat.le_refl _) _
  go_loopw [3, 4] (fun m i wr => ∃ k d : Nat, k ≤ ks.length ∧ i = .int .i64 k ∧ m = .int .i64 d ∧ d ≤ 1048576 ∧ Hid (d = V.depths (ks.take k)) ∧ Below (w.heap.size + 1) (w.alloc (.cells #[.int .i64 c, .int .i64 n, .slice A ks.length cap] 41)) wr) (fun _ i _ => ks.length - (intOf i).toNat)
  case atStart => exact ⟨0, 0, Nat.zero_le _, rfl, rfl, by omega, by simp [Hid, V.depths], Below.refl _ _⟩
  case round =>
    obtain ⟨k, d, hk, rfl, rfl, hd, HD, hB1⟩ := hrel
    have hB := hB0.trans (hB1.mono (by omega))
    have x2 : wr.cell? ⟨w.heap.size, 2, none⟩ = some (.slice A ks.length cap) := (hB1.cell (p := ⟨w.heap.size, 2, none⟩) (by simp)).trans (by simp)
    have hsz : w.heap.size < wr.heap.size := by have := hB1.size; simp at this; omega
    clear hB0
    by_cases hlt : k < ks.length
    · obtain ⟨b, off, cs, G, rfl, hb, hcs, hv, hG⟩ := HK.out.get VR_len hlt
      have hbl := HF.out b hb
      have hGF := HF.out.sub hG
      have hv1 := hv.below hB hGF
      have hcs1 := hcs.same (hB.block b hbl)
      obtain ⟨kv, rfl, _⟩ := (VR_iff _ _ _).1 hv
      have c0 := hcs1 0 _ rfl
      have c1 := hcs1 1 _ rfl
      have c2 := hcs1 2 _ rfl
      simp only [Nat.add_zero] at c0
      clear hcs hcs1 hv hG
      have HV := Lib.hid hv1
      clear hv1
      have HG := Lib.hid hGF
      clear hGF
      go_wp2_with fail
      refine (IH.out _ (List.getElem_mem hlt) _ _ G HV.out (HG.out.mono hB.size) (by have := V.sizes_mem ks k hlt; have := HZ.out; omega)).mono ?_
      rintro e w' ⟨rfl, hB'⟩
      have hB2 := hB1.trans (hB'.mono (by omega))
      have hs := V.depths_take_succ ks k hlt
      have hle : ks[k].depth ≤ 1048576 := by have := V.depth_le ks[k]; have := V.sizes_mem ks k hlt; have := HZ.out; omega
      by_cases hgt : d < ks[k].depth
      · have HS : Hid (ks[k].depth = V.depths (ks.take (k + 1))) := by rw [hs, ← HD.out]; unfold Hid; omega
        clear hs
        generalize ks[k].depth = e at *
        go_wp2
        go_roundw
        case rel => exact ⟨k + 1, e, by omega, by go_num, rfl, hle, HS, hB2⟩
        case measure => simp [intOf]; omega
      · have HS : Hid (d = V.depths (ks.take (k + 1))) := by rw [hs, ← HD.out]; unfold Hid; omega
        clear hs
        generalize ks[k].depth = e at *
        go_wp2
        go_roundw
        case rel => exact ⟨k + 1, d, by omega, by go_num, rfl, hd, HS, hB2⟩
        case measure => simp [intOf]; omega
    · have HS : Hid (((d : Int) + 1) = ((V.depth ⟨c, n, ks⟩ : Nat) : Int)) := by
        have := HD.out
        rw [List.take_of_length_le (by omega)] at this
        simp only [V.depth, Hid]; omega
      go_wp2
      go_ret
      exact ⟨ret_int HS.out, hB⟩

def DepthImpl (v : V) : Prop := ∀ (w : World) (cs : List Value) (F : List Nat), VR w v cs F → Under w.heap.size F → v.size ≤ 1048576 →
  Calls Try.prog 52 #[.agg cs.toArray] w fun e w' => e = .returned (.int .i64 v.depth) ∧ Below w.heap.size w w'

set_option maxHeartbeats 400000 in
theorem impl_DepthOf_all : ∀ v, DepthImpl v := V.ind fun c n ks ih w cs F hv hF hz => by
  obtain ⟨kv, rfl, hk⟩ := (VR_iff _ _ _).1 hv
  have hz' : V.sizes ks ≤ 1048576 := hz
  have hn : ks.length ≤ 1048576 := by rw [V.sizes_eq] at hz'; omega
  have HZ := Lib.hid hz'
  clear hz hz'
  have IH := Lib.hid ih
  clear ih hv
  obtain ⟨A, cap, rfl, -, -⟩ := hk.form
  have HK := Lib.hid hk
  clear hk
  have HF := Lib.hid hF
  clear hF
  go_enter Try.func52, Try.ntmps52
  go_wp2
  have hB0 : Below w.heap.size w (w.alloc (.cells #[.int .i64 c, .int .i64 n, .slice A ks.length cap] 41)) := (Below.refl _ _).alloc (Nat.le_refl _) _
  go_loopw [3, 9] (fun m i wr => ∃ k d : Nat, k ≤ ks.length ∧ i = .int .i64 k ∧ m = .int .i64 d ∧ d ≤ 1048576 ∧ Hid (d = V.depths (ks.take k)) ∧ Below w.heap.size w wr) (fun _ i _ => ks.length - (intOf i).toNat)
  case atStart => exact ⟨0, 0, Nat.zero_le _, rfl, rfl, by omega, by simp [Hid, V.depths], hB0⟩
  case round =>
    obtain ⟨k, d, hk, rfl, rfl, hd, HD, hB⟩ := hrel
    clear hB0
    by_cases hlt : k < ks.length
    · obtain ⟨b, off, cs, G, rfl, hb, hcs, hv, hG⟩ := HK.out.get VR_len hlt
      have hbl := HF.out b hb
      have hGF := HF.out.sub hG
      have hv1 := hv.below hB hGF
      have hcs1 := hcs.same (hB.block b hbl)
      obtain ⟨kv, rfl, ha⟩ := (VR_iff _ _ _).1 hv
      obtain ⟨A', cap', rfl, -, -⟩ := ha.form
      have c0 := hcs1 0 _ rfl
      have c1 := hcs1 1 _ rfl
      have c2 := hcs1 2 _ rfl
      simp only [Nat.add_zero] at c0
      clear hcs hcs1 hv hG ha
      have HV := Lib.hid hv1
      clear hv1
      have HG := Lib.hid hGF
      clear hGF
      go_wp2_with fail
      have hB1 := hB.alloc hB.size (.cells #[.int .i64 ks[k].c, .int .i64 ks[k].n, .slice A' ks[k].ks.length cap'] 41)
      refine (IH.out _ (List.getElem_mem hlt) _ _ G (HV.out.below ((Below.refl wr.heap.size wr).alloc (Nat.le_refl _) _) (HG.out.mono hB.size)) (HG.out.mono hB1.size) (by have := V.sizes_mem ks k hlt; have := HZ.out; omega)).mono ?_
      rintro e w' ⟨rfl, hB'⟩
      have hB2 := hB1.trans (hB'.mono hB1.size)
      have hs := V.depths_take_succ ks k hlt
      have hle : ks[k].depth ≤ 1048576 := by have := V.depth_le ks[k]; have := V.sizes_mem ks k hlt; have := HZ.out; omega
      have HS : Hid (max d ks[k].depth = V.depths (ks.take (k + 1))) := by rw [hs, ← HD.out]; rfl
      clear hs
      generalize ks[k].depth = e at *
      have hme : max d e ≤ 1048576 := by omega
      by_cases hde : d < e
      · have HS2 : Hid (e = V.depths (ks.take (k + 1))) := by rw [← HS.out]; unfold Hid; omega
        clear HS
        go_wp2
        go_roundw
        case rel => exact ⟨k + 1, e, by omega, by go_num, rfl, hle, HS2, hB2⟩
        case measure => simp [intOf]; omega
      · have HS2 : Hid (d = V.depths (ks.take (k + 1))) := by rw [← HS.out]; unfold Hid; omega
        clear HS
        go_wp2
        go_roundw
        case rel => exact ⟨k + 1, d, by omega, by go_num, rfl, hd, HS2, hB2⟩
        case measure => simp [intOf]; omega
    · have HS : Hid (((d : Int) + 1) = ((V.depth ⟨c, n, ks⟩ : Nat) : Int)) := by
        have := HD.out
        rw [List.take_of_length_le (by omega)] at this
        simp only [V.depth, Hid]; omega
      go_wp2
      go_ret
      exact ⟨ret_int HS.out, hB⟩
theorem spec_DepthOf (v : V) (w : World) (cs : List Value) (F : List Nat) (hv : VR w v cs F) (hF : Under w.heap.size F) (hz : v.size ≤ 1048576) :
    Calls Try.prog 53 #[.agg cs.toArray] w fun e w' => e = .returned (.int .i64 v.depth) ∧ Below w.heap.size w w' := spec_DepthOf_all v w cs F hv hF hz
theorem impl_DepthOf (v : V) (w : World) (cs : List Value) (F : List Nat) (hv : VR w v cs F) (hF : Under w.heap.size F) (hz : v.size ≤ 1048576) :
    Calls Try.prog 52 #[.agg cs.toArray] w fun e w' => e = .returned (.int .i64 v.depth) ∧ Below w.heap.size w w' := impl_DepthOf_all v w cs F hv hF hz
end Go.Proofs.Ytbffkgfhcmigaaa

namespace Go.Proofs.Ytbffkgfhcmigaaa
open Go.RowKit

mutual
def V.same : V → V → Bool
  | ⟨c, n, ks⟩, ⟨c', n', ks'⟩ => (c == c') && (n == n') && V.sames ks ks'
def V.sames : List V → List V → Bool
  | [], [] => true
  | x :: xs, y :: ys => V.same x y && V.sames xs ys
  | [], _ :: _ => false
  | _ :: _, [] => false
end
theorem V.sames_iff_of (ks : List V) (h : ∀ k ∈ ks, ∀ b, V.same k b = true ↔ k = b) : ∀ ks', V.sames ks ks' = true ↔ ks = ks' := by
  induction ks with
  | nil => intro ks'; cases ks' <;> simp [V.sames]
  | cons x xs ih =>
    intro ks'
    cases ks' with
    | nil => simp [V.sames]
    | cons y ys =>
      simp only [V.sames, Bool.and_eq_true, List.cons.injEq]
      rw [h x (by simp) y, ih (fun k hk => h k (by simp [hk])) ys]
theorem V.same_iff : ∀ a b : V, V.same a b = true ↔ a = b := V.ind fun c n ks ih b => by
  obtain ⟨c', n', ks'⟩ := b
  simp only [V.same, Bool.and_eq_true, V.sames_iff_of ks ih, beq_iff_eq, V.mk.injEq, and_assoc]
theorem V.same_false {a b : V} (h : a ≠ b) : V.same a b = false := by
  rw [Bool.eq_false_iff]
  exact fun e => h ((V.same_iff a b).1 e)

def SameSpecV (a : V) : Prop := ∀ (b : V) (w : World) (cs ds : List Value) (F G : List Nat), VR w a cs F → VR w b ds G → Under w.heap.size F → Under w.heap.size G →
  Calls Try.prog 58 #[.agg cs.toArray, .agg ds.toArray] w fun e w' => e = .returned (.bool (V.same a b)) ∧ Below w.heap.size w w'

set_option maxRecDepth 100000 in
set_option maxHeartbeats 1600000 in
theorem spec_ValueSame_all : ∀ a, SameSpecV a := V.ind fun c n ks ih b w cs ds F G hv hv' hF hG => by
  obtain ⟨c', n', ks'⟩ := b
  obtain ⟨kv, rfl, hk⟩ := (VR_iff _ _ _).1 hv
  obtain ⟨kv', rfl, hk'⟩ := (VR_iff _ _ _).1 hv'
  have IH := Lib.hid ih
  clear ih hv hv'
  have HK := Lib.hid hk
  have HK' := Lib.hid hk'
  obtain ⟨A, cap, rfl, hc1, hc2⟩ := hk.form
  obtain ⟨A', cap', rfl, hc3, hc4⟩ := hk'.form
  clear hk hk'
  have HF := Lib.hid hF
  have HG := Lib.hid hG
  clear hF hG
  by_cases e0 : c = c'
  · subst e0
    have t0 : (c != c) = false := by simp
    have s0 : (c == c) = true := by simp
    by_cases e1 : n = n'
    · subst e1
      have t1 : (n != n) = false := by simp
      have s1 : (n == n) = true := by simp
      by_cases hl : ks.length = ks'.length
      · have tl : ((ks.length : Int) != (ks'.length : Int)) = false := by rw [hl]; simp
        have HL := Lib.hid hl
        have hle1 : ks.length ≤ ks'.length := by omega
        have hle2 : ks'.length ≤ ks.length := by omega
        clear hl
        go_enter Try.func58, Try.ntmps58
        go_wp2
        obtain ⟨W2, hW2⟩ : ∃ W2, W2 = (w.alloc (.cells #[.int .i64 c, .int .i64 n, .slice A ks.length cap] 41)).alloc (.cells #[.int .i64 c, .int .i64 n, .slice A' ks'.length cap'] 41) := ⟨_, rfl⟩
        have hB2 : Below w.heap.size w W2 := by rw [hW2]; exact ((Below.refl _ _).alloc (Nat.le_refl _) _).alloc (by simp) _
        have hz2 : W2.heap.size = w.heap.size + 2 := by rw [hW2]; simp
        have k1 : Blk W2 w.heap.size 41 #[.int .i64 c, .int .i64 n, .slice A ks.length cap] := by rw [hW2]; exact (Blk.new w _ _).same (Below.heap_alloc _ _ _ (by simp))
        have k2 : Blk W2 (w.heap.size + 1) 41 #[.int .i64 c, .int .i64 n, .slice A' ks'.length cap'] := by rw [hW2]; have := Blk.new (w.alloc (.cells #[.int .i64 c, .int .i64 n, .slice A ks.length cap] 41)) 41 #[.int .i64 c, .int .i64 n, .slice A' ks'.length cap']; simpa using this
        rw [← hW2]
        clear hW2
        have K1 := Lib.hid k1
        have K2 := Lib.hid k2
        have HZ2 := Lib.hid hz2
        clear k1 k2 hz2
        go_loopw [5] (fun i wr => ∃ k : Nat, k ≤ ks.length ∧ i = .int .i64 k ∧ Hid (ks.take k = ks'.take k) ∧ Below W2.heap.size W2 wr) (fun i _ => ks.length - (intOf i).toNat)
        case atStart => exact ⟨0, Nat.zero_le _, rfl, rfl, Below.refl _ _⟩
        case round =>
          obtain ⟨k, hk, rfl, HT, hB1⟩ := hrel
          have hB := hB2.trans (hB1.mono hB2.size)
          have hszr : w.heap.size + 2 ≤ wr.heap.size := by have := hB1.size; have := HZ2.out; omega
          have x2 : wr.cell? ⟨w.heap.size, 2, none⟩ = some (.slice A ks.length cap) := ((K1.out.same (hB1.block _ (by have := HZ2.out; omega))).cell 2).trans (by simp)
          have y2 : wr.cell? ⟨w.heap.size + 1, 2, none⟩ = some (.slice A' ks'.length cap') := ((K2.out.same (hB1.block _ (by have := HZ2.out; omega))).cell 2).trans (by simp)
          by_cases hlt : k < ks.length
          · have hlt' : k < ks'.length := by omega
            obtain ⟨b, off, cs, F1, rfl, hb, hcs, hv, hF1⟩ := HK.out.get VR_len hlt
            obtain ⟨b', off', ds, G1, rfl, hb', hds, hv', hG1⟩ := HK'.out.get VR_len hlt'
            have hv1 := hv.below hB (HF.out.sub hF1)
            have hv2 := hv'.below hB (HG.out.sub hG1)
            have hbl := HF.out b hb
            have hbl' := HG.out b' hb'
            have hcs1 := hcs.same (hB.block b hbl)
            have hds1 := hds.same (hB.block b' hbl')
            obtain ⟨kv, rfl, hka⟩ := (VR_iff _ _ _).1 hv
            obtain ⟨kv', rfl, hka'⟩ := (VR_iff _ _ _).1 hv'
            obtain ⟨A1, cap1, rfl, -, -⟩ := hka.form
            obtain ⟨A2, cap2, rfl, -, -⟩ := hka'.form
            have c0 := hcs1 0 _ rfl
            have c1 := hcs1 1 _ rfl
            have c2 := hcs1 2 _ rfl
            have d0 := hds1 0 _ rfl
            have d1 := hds1 1 _ rfl
            have d2 := hds1 2 _ rfl
            simp only [Nat.add_zero] at c0 d0
            clear hcs hcs1 hv hds hds1 hv' hka hka'
            have HV := Lib.hid hv1
            have HV2 := Lib.hid hv2
            have HF1 := Lib.hid (HF.out.sub hF1)
            have HG1 := Lib.hid (HG.out.sub hG1)
            clear hv1 hv2 hF1 hG1
            by_cases he : ks[k] = ks'[k]
            · have hsame : V.same ks[k] ks'[k] = true := (V.same_iff _ _).2 he
              have hT2 : Hid (ks.take (k + 1) = ks'.take (k + 1)) := by rw [take_snoc' ks k hlt, take_snoc' ks' k hlt', HT.out, he]; rfl
              clear he
              go_wp2_with fail
              have hkeep : ∀ U U' : World, (U.cell? ⟨w.heap.size, 2, none⟩ = some (.slice (some ⟨b, off, none⟩) ks.length cap) ∧ U.cell? ⟨w.heap.size + 1, 2, none⟩ = some (.slice (some ⟨b', off', none⟩) ks'.length cap') ∧ U.cell? ⟨b, off + k * 3, none⟩ = some (.int .i64 ks[k].c) ∧ U.cell? ⟨b, off + k * 3 + 1, none⟩ = some (.int .i64 ks[k].n) ∧ U.cell? ⟨b, off + k * 3 + 2, none⟩ = some (.slice A1 ks[k].ks.length cap1) ∧ U.cell? ⟨b', off' + k * 3, none⟩ = some (.int .i64 ks'[k].c) ∧ U.cell? ⟨b', off' + k * 3 + 1, none⟩ = some (.int .i64 ks'[k].n) ∧ U.cell? ⟨b', off' + k * 3 + 2, none⟩ = some (.slice A2 ks'[k].ks.length cap2)) → Below U.heap.size U U' → wr.heap.size ≤ U.heap.size → (U'.cell? ⟨w.heap.size, 2, none⟩ = some (.slice (some ⟨b, off, none⟩) ks.length cap) ∧ U'.cell? ⟨w.heap.size + 1, 2, none⟩ = some (.slice (some ⟨b', off', none⟩) ks'.length cap') ∧ U'.cell? ⟨b, off + k * 3, none⟩ = some (.int .i64 ks[k].c) ∧ U'.cell? ⟨b, off + k * 3 + 1, none⟩ = some (.int .i64 ks[k].n) ∧ U'.cell? ⟨b, off + k * 3 + 2, none⟩ = some (.slice A1 ks[k].ks.length cap1) ∧ U'.cell? ⟨b', off' + k * 3, none⟩ = some (.int .i64 ks'[k].c) ∧ U'.cell? ⟨b', off' + k * 3 + 1, none⟩ = some (.int .i64 ks'[k].n) ∧ U'.cell? ⟨b', off' + k * 3 + 2, none⟩ = some (.slice A2 ks'[k].ks.length cap2)) := fun U U' h hb hU => ⟨(hb.cell (Nat.lt_of_lt_of_le (show w.heap.size < wr.heap.size from by omega) hU)).trans h.1, (hb.cell (Nat.lt_of_lt_of_le (show w.heap.size + 1 < wr.heap.size from by omega) hU)).trans h.2.1, (hb.cell (Nat.lt_of_lt_of_le (show b < wr.heap.size from by omega) hU)).trans h.2.2.1, (hb.cell (Nat.lt_of_lt_of_le (show b < wr.heap.size from by omega) hU)).trans h.2.2.2.1, (hb.cell (Nat.lt_of_lt_of_le (show b < wr.heap.size from by omega) hU)).trans h.2.2.2.2.1, (hb.cell (Nat.lt_of_lt_of_le (show b' < wr.heap.size from by omega) hU)).trans h.2.2.2.2.2.1, (hb.cell (Nat.lt_of_lt_of_le (show b' < wr.heap.size from by omega) hU)).trans h.2.2.2.2.2.2.1, (hb.cell (Nat.lt_of_lt_of_le (show b' < wr.heap.size from by omega) hU)).trans h.2.2.2.2.2.2.2⟩
              have HKeep := Lib.hid hkeep
              clear hkeep
              go_region_held3 (fun w' => w'.cell? ⟨w.heap.size, 2, none⟩ = some (.slice (some ⟨b, off, none⟩) ks.length cap) ∧ w'.cell? ⟨w.heap.size + 1, 2, none⟩ = some (.slice (some ⟨b', off', none⟩) ks'.length cap') ∧ w'.cell? ⟨b, off + k * 3, none⟩ = some (.int .i64 ks[k].c) ∧ w'.cell? ⟨b, off + k * 3 + 1, none⟩ = some (.int .i64 ks[k].n) ∧ w'.cell? ⟨b, off + k * 3 + 2, none⟩ = some (.slice A1 ks[k].ks.length cap1) ∧ w'.cell? ⟨b', off' + k * 3, none⟩ = some (.int .i64 ks'[k].c) ∧ w'.cell? ⟨b', off' + k * 3 + 1, none⟩ = some (.int .i64 ks'[k].n) ∧ w'.cell? ⟨b', off' + k * 3 + 2, none⟩ = some (.slice A2 ks'[k].ks.length cap2)) (first | assumption | (exact ⟨x2, y2, c0, c1, c2, d0, d1, d2⟩) | (exact HKeep.out wr.drew w' ⟨x2, y2, c0, c1, c2, d0, d1, d2⟩ hB' (Nat.le_refl _))) (first | (go_at_call 58; refine (IH.out _ (List.getElem_mem hlt) ks'[k] _ _ _ F1 G1 HV.out.drew HV2.out.drew (HF1.out.mono hB.size) (HG1.out.mono hB.size)).mono ?_; rintro e w' ⟨rfl, hB'⟩; rw [hsame]))
              have hB3 := hB1.drew.trans (hB'.mono hB1.size)
              go_wp2
              go_roundw
              case rel => exact ⟨k + 1, by omega, by go_num, hT2, hB3⟩
              case measure => simp [intOf]; omega
            · have hsame : V.same ks[k] ks'[k] = false := V.same_false he
              have hf := Lib.hid (V.same_false (a := ⟨c, n, ks⟩) (b := ⟨c, n, ks'⟩) (fun h => he (by injection h; simp_all)))
              clear he
              go_wp2_with fail
              have hkeep : ∀ U U' : World, (U.cell? ⟨w.heap.size, 2, none⟩ = some (.slice (some ⟨b, off, none⟩) ks.length cap) ∧ U.cell? ⟨w.heap.size + 1, 2, none⟩ = some (.slice (some ⟨b', off', none⟩) ks'.length cap') ∧ U.cell? ⟨b, off + k * 3, none⟩ = some (.int .i64 ks[k].c) ∧ U.cell? ⟨b, off + k * 3 + 1, none⟩ = some (.int .i64 ks[k].n) ∧ U.cell? ⟨b, off + k * 3 + 2, none⟩ = some (.slice A1 ks[k].ks.length cap1) ∧ U.cell? ⟨b', off' + k * 3, none⟩ = some (.int .i64 ks'[k].c) ∧ U.cell? ⟨b', off' + k * 3 + 1, none⟩ = some (.int .i64 ks'[k].n) ∧ U.cell? ⟨b', off' + k * 3 + 2, none⟩ = some (.slice A2 ks'[k].ks.length cap2)) → Below U.heap.size U U' → wr.heap.size ≤ U.heap.size → (U'.cell? ⟨w.heap.size, 2, none⟩ = some (.slice (some ⟨b, off, none⟩) ks.length cap) ∧ U'.cell? ⟨w.heap.size + 1, 2, none⟩ = some (.slice (some ⟨b', off', none⟩) ks'.length cap') ∧ U'.cell? ⟨b, off + k * 3, none⟩ = some (.int .i64 ks[k].c) ∧ U'.cell? ⟨b, off + k * 3 + 1, none⟩ = some (.int .i64 ks[k].n) ∧ U'.cell? ⟨b, off + k * 3 + 2, none⟩ = some (.slice A1 ks[k].ks.length cap1) ∧ U'.cell? ⟨b', off' + k * 3, none⟩ = some (.int .i64 ks'[k].c) ∧ U'.cell? ⟨b', off' + k * 3 + 1, none⟩ = some (.int .i64 ks'[k].n) ∧ U'.cell? ⟨b', off' + k * 3 + 2, none⟩ = some (.slice A2 ks'[k].ks.length cap2)) := fun U U' h hb hU => ⟨(hb.cell (Nat.lt_of_lt_of_le (show w.heap.size < wr.heap.size from by omega) hU)).trans h.1, (hb.cell (Nat.lt_of_lt_of_le (show w.heap.size + 1 < wr.heap.size from by omega) hU)).trans h.2.1, (hb.cell (Nat.lt_of_lt_of_le (show b < wr.heap.size from by omega) hU)).trans h.2.2.1, (hb.cell (Nat.lt_of_lt_of_le (show b < wr.heap.size from by omega) hU)).trans h.2.2.2.1, (hb.cell (Nat.lt_of_lt_of_le (show b < wr.heap.size from by omega) hU)).trans h.2.2.2.2.1, (hb.cell (Nat.lt_of_lt_of_le (show b' < wr.heap.size from by omega) hU)).trans h.2.2.2.2.2.1, (hb.cell (Nat.lt_of_lt_of_le (show b' < wr.heap.size from by omega) hU)).trans h.2.2.2.2.2.2.1, (hb.cell (Nat.lt_of_lt_of_le (show b' < wr.heap.size from by omega) hU)).trans h.2.2.2.2.2.2.2⟩
              have HKeep := Lib.hid hkeep
              clear hkeep
              go_region_held3 (fun w' => w'.cell? ⟨w.heap.size, 2, none⟩ = some (.slice (some ⟨b, off, none⟩) ks.length cap) ∧ w'.cell? ⟨w.heap.size + 1, 2, none⟩ = some (.slice (some ⟨b', off', none⟩) ks'.length cap') ∧ w'.cell? ⟨b, off + k * 3, none⟩ = some (.int .i64 ks[k].c) ∧ w'.cell? ⟨b, off + k * 3 + 1, none⟩ = some (.int .i64 ks[k].n) ∧ w'.cell? ⟨b, off + k * 3 + 2, none⟩ = some (.slice A1 ks[k].ks.length cap1) ∧ w'.cell? ⟨b', off' + k * 3, none⟩ = some (.int .i64 ks'[k].c) ∧ w'.cell? ⟨b', off' + k * 3 + 1, none⟩ = some (.int .i64 ks'[k].n) ∧ w'.cell? ⟨b', off' + k * 3 + 2, none⟩ = some (.slice A2 ks'[k].ks.length cap2)) (first | assumption | (exact ⟨x2, y2, c0, c1, c2, d0, d1, d2⟩) | (exact HKeep.out wr.drew w' ⟨x2, y2, c0, c1, c2, d0, d1, d2⟩ hB' (Nat.le_refl _))) (first | (go_at_call 58; refine (IH.out _ (List.getElem_mem hlt) ks'[k] _ _ _ F1 G1 HV.out.drew HV2.out.drew (HF1.out.mono hB.size) (HG1.out.mono hB.size)).mono ?_; rintro e w' ⟨rfl, hB'⟩; rw [hsame]))
              have hB3 := hB.drew.trans (hB'.mono hB.size)
              go_wp2
              go_ret
              exact ⟨ret_bool hf.out.symm, hB3⟩
          · have hT := HT.out
            rw [List.take_of_length_le (by omega), List.take_of_length_le (by omega)] at hT
            have hf := Lib.hid ((V.same_iff ⟨c, n, ks⟩ ⟨c, n, ks'⟩).2 (by rw [hT]))
            clear hT
            go_wp2
            go_ret
            exact ⟨ret_bool hf.out.symm, hB⟩
      · have tl : ((ks.length : Int) != (ks'.length : Int)) = true := by rw [bne_iff_ne]; omega
        have hf := Lib.hid (V.same_false (a := ⟨c, n, ks⟩) (b := ⟨c, n, ks'⟩) (fun h => hl (by injection h; simp_all)))
        clear hl
        go_enter Try.func58, Try.ntmps58
        go_wp2
        go_ret
        exact ⟨ret_bool hf.out.symm, ((Below.refl _ _).alloc (Nat.le_refl _) _).alloc (by simp) _⟩
    · have t1 : (n != n') = true := by simpa using e1
      have s1 : (n == n') = false := by simpa using e1
      have hf := Lib.hid (V.same_false (a := ⟨c, n, ks⟩) (b := ⟨c, n', ks'⟩) (fun h => e1 (by injection h)))
      clear e1
      go_enter Try.func58, Try.ntmps58
      go_wp2
      go_ret
      exact ⟨ret_bool hf.out.symm, ((Below.refl _ _).alloc (Nat.le_refl _) _).alloc (by simp) _⟩
  · have t0 : (c != c') = true := by simpa using e0
    have s0 : (c == c') = false := by simpa using e0
    have hf := Lib.hid (V.same_false (a := ⟨c, n, ks⟩) (b := ⟨c', n', ks'⟩) (fun h => e0 (by injection h)))
    clear e0
    go_enter Try.func58, Try.ntmps58
    go_wp2
    go_ret
    exact ⟨ret_bool hf.out.symm, ((Below.refl _ _).alloc (Nat.le_refl _) _).alloc (by simp) _⟩

theorem spec_ValueSame (a b : V) (w : World) (cs ds : List Value) (F G : List Nat) (hx : VR w a cs F) (hy : VR w b ds G) (hF : Under w.heap.size F) (hG : Under w.heap.size G) :
    Calls Try.prog 58 #[.agg cs.toArray, .agg ds.toArray] w fun e w' => e = .returned (.bool (V.same a b)) ∧ Below w.heap.size w w' := spec_ValueSame_all a b w cs ds F G hx hy hF hG
end Go.Proofs.Ytbffkgfhcmigaaa

namespace Go.Proofs.Ytbffkgfhcmigaaa
open Go.RowKit

theorem V.depths_map {α : Type} (f : α → V) (g : α → Int) (l : List α) (h : ∀ a ∈ l, ((f a).depth : Int) = g a) (m : Int) (h0 : 0 ≤ m) : max m ((V.depths (l.map f) : Nat) : Int) = l.foldl (fun m a => max m (g a)) m := by
  induction l generalizing m with
  | nil => simp [V.depths]; omega
  | cons a l ih =>
    rw [List.map_cons, V.depths, List.foldl_cons, ← ih (fun b hb => h b (by simp [hb])) (max m (g a)) (by omega), ← h a (by simp)]
    omega
theorem mostGo_fold {tab : List Int} : ∀ {ls : List Ty} {m : Int}, (∀ a ∈ ls, depthIn tab a ≠ 0) → mostGo tab m ls = ls.foldl (fun m a => max m (depthIn tab a)) m + 1
  | [], m, _ => rfl
  | a :: ls, m, h => by
    rw [mostGo, if_neg (h a (by simp)), List.foldl_cons]
    exact mostGo_fold fun b hb => h b (by simp [hb])
/-- a least value is as deep as the table says -/
theorem leastV_depth {xs : List Dt} (hw : WorldOK xs) : ∀ (n : Nat) (t : Ty), TyIn xs.length t → depthIn (tableL xs) t ≠ 0 → depthIn (tableL xs) t ≤ (n : Int) → ((leastV xs n t).depth : Int) = depthIn (tableL xs) t
  | 0, t, ht, h0, hn => by
    have := (tableL_small hw).dep t
    simp only [Int.natCast_zero] at hn
    omega
  | n + 1, t, ht, h0, hn => by
    by_cases hd : t.d = -1
    · rw [leastV_int hd, depthIn_int hd]; rfl
    · obtain ⟨k, hk⟩ := least_find hw ht hd h0
      rw [leastV_some hd hk]
      have hm := List.mem_of_find?_eq_some hk
      have hl := List.find?_some hk
      have ha : ∀ a ∈ argsOf xs t k, ((leastV xs n a).depth : Int) = depthIn (tableL xs) a := fun a ha => by
        have h1 := least_args hw ht hm hl h0 ha
        exact leastV_depth hw n a h1.1 h1.2.1 (by push_cast at hn; omega)
      have e := eq_of_beq (show (mostIn xs (tableL xs) t k == depthIn (tableL xs) t) = true from hl)
      have hne := mostGo_ne (tab := tableL xs) (ls := argsOf xs t k) (m := 0) (by show mostIn xs (tableL xs) t k ≠ 0; rw [e]; exact h0)
      have h2 := V.depths_map (leastV xs n) (depthIn (tableL xs)) (argsOf xs t k) ha 0 (Int.le_refl 0)
      have h3 := mostGo_fold (m := 0) hne
      rw [← h2] at h3
      have h4 : mostGo (tableL xs) 0 (argsOf xs t k) = mostIn xs (tableL xs) t k := rfl
      rw [h4, e] at h3
      rw [V.depth]
      push_cast
      omega
theorem leastFine_facts {xs : List Dt} {t : Ty} (h : leastFine xs t = true) : valueValidB xs t (leastR xs t) = true ∧ posB (depthL xs t) = true ∧ ((leastR xs t).depth : Int) = depthL xs t := by
  have e := h
  rw [leastFine_eq] at h
  simp only [Bool.and_eq_true] at h
  obtain ⟨h1, h2, h3⟩ := h
  have hr := leastR_yes e h2
  have hd := leastOk_dep h2
  obtain ⟨hw, hto⟩ := typeValid_split h1
  have hl : leastOkV xs t = leastV xs 10 t := by unfold leastOkV; rw [if_pos h2]
  refine ⟨by unfold valueValidB; rw [h1, hr, h3]; rfl, ?_, ?_⟩
  · rw [depthL_yes h1]
    have := (tableL_small hw).dep t
    unfold posB
    exact decide_eq_true (by omega)
  · rw [hr, hl, depthL_yes h1]
    exact leastV_depth hw 10 t (typeOkB_tyIn hto) hd.1 hd.2
theorem V.same_refl (v : V) : V.same v v = true := (V.same_iff v v).2 rfl
end Go.Proofs.Ytbffkgfhcmigaaa

namespace Go.Proofs.Ytbffkgfhcmigaaa
open Go.RowKit

theorem V.sames_iff (ks ks' : List V) : V.sames ks ks' = true ↔ ks = ks' := V.sames_iff_of ks (fun k _ => V.same_iff k) ks'
theorem V.sames_false {ks ks' : List V} (h : ks ≠ ks') : V.sames ks ks' = false := by
  rw [Bool.eq_false_iff]
  exact fun e => h ((V.sames_iff ks ks').1 e)

def SameImplV (a : V) : Prop := ∀ (b : V) (w : World) (cs ds : List Value) (F G : List Nat), VR w a cs F → VR w b ds G → Under w.heap.size F → Under w.heap.size G →
  Calls Try.prog 57 #[.agg cs.toArray, .agg ds.toArray] w fun e w' => e = .returned (.bool (V.same a b)) ∧ Below w.heap.size w w'

set_option maxRecDepth 100000 in
set_option maxHeartbeats 1600000 in
theorem EqualFunc_ofV (ks : List V) (ih : ∀ k ∈ ks, SameImplV k) (ks' : List V) (w : World) (x y : Value) (F G : List Nat) (hx : Arr w (VR w) ks x F) (hy : Arr w (VR w) ks' y G) (hF : Under w.heap.size F) (hG : Under w.heap.size G) :
    Calls Try.prog 111 #[x, y, .func (.func 57) #[] #[]] w fun e w' => e = .returned (.bool (V.sames ks ks')) ∧ Below w.heap.size w w' := by
  have HX := Lib.hid hx
  have HY := Lib.hid hy
  obtain ⟨A, cap, rfl, hc1, hc2⟩ := hx.form
  obtain ⟨A', cap', rfl, hc3, hc4⟩ := hy.form
  clear hx hy
  have IH := Lib.hid ih
  clear ih
  have HF := Lib.hid hF
  have HG := Lib.hid hG
  clear hF hG
  by_cases hl : ks.length = ks'.length
  · have tl : ((ks.length : Int) != (ks'.length : Int)) = false := by rw [hl]; simp
    have HL := Lib.hid hl
    have hle1 : ks.length ≤ ks'.length := by omega
    have hle2 : ks'.length ≤ ks.length := by omega
    clear hl
    go_enter Try.func111, Try.ntmps111
    go_wp2
    go_loopw [17] (fun i wr => ∃ k : Nat, k ≤ ks.length ∧ i = .int .i64 k ∧ Hid (ks.take k = ks'.take k) ∧ Below w.heap.size w wr) (fun i _ => ks.length - (intOf i).toNat)
    case atStart => exact ⟨0, Nat.zero_le _, rfl, rfl, Below.refl _ _⟩
    case round =>
      obtain ⟨k, hk, rfl, HT, hB⟩ := hrel
      by_cases hlt : k < ks.length
      · have hlt' : k < ks'.length := by omega
        obtain ⟨b, off, cs, F1, rfl, hb, hcs, hv, hF1⟩ := HX.out.get VR_len hlt
        obtain ⟨b', off', ds, G1, rfl, hb', hds, hv', hG1⟩ := HY.out.get VR_len hlt'
        have hv1 := hv.below hB (HF.out.sub hF1)
        have hv2 := hv'.below hB (HG.out.sub hG1)
        have hbl := Nat.lt_of_lt_of_le (HF.out b hb) hB.size
        have hbl' := Nat.lt_of_lt_of_le (HG.out b' hb') hB.size
        have hcs1 := hcs.same (hB.block b (HF.out b hb))
        have hds1 := hds.same (hB.block b' (HG.out b' hb'))
        obtain ⟨kv, rfl, hka⟩ := (VR_iff _ _ _).1 hv
        obtain ⟨kv', rfl, hka'⟩ := (VR_iff _ _ _).1 hv'
        obtain ⟨A1, cap1, rfl, -, -⟩ := hka.form
        obtain ⟨A2, cap2, rfl, -, -⟩ := hka'.form
        have c0 := hcs1 0 _ rfl
        have c1 := hcs1 1 _ rfl
        have c2 := hcs1 2 _ rfl
        have d0 := hds1 0 _ rfl
        have d1 := hds1 1 _ rfl
        have d2 := hds1 2 _ rfl
        simp only [Nat.add_zero] at c0 d0
        clear hcs hcs1 hv hds hds1 hv' hka hka'
        have HV := Lib.hid hv1
        have HV2 := Lib.hid hv2
        have HF1 := Lib.hid (HF.out.sub hF1)
        have HG1 := Lib.hid (HG.out.sub hG1)
        clear hv1 hv2 hF1 hG1
        go_wp2_with fail
        obtain ⟨W2, hW2⟩ : ∃ W2, W2 = (wr.alloc (.cells #[.int .i64 ks[k].c, .int .i64 ks[k].n, .slice A1 ks[k].ks.length cap1] 41)).alloc (.cells #[.int .i64 ks'[k].c, .int .i64 ks'[k].n, .slice A2 ks'[k].ks.length cap2] 41) := ⟨_, rfl⟩
        have hb2 : Below wr.heap.size wr W2 := by rw [hW2]; exact ((Below.refl _ _).alloc (Nat.le_refl _) _).alloc (by simp) _
        rw [← hW2]
        clear hW2
        have hB2 := hB.trans (hb2.mono hB.size)
        refine (IH.out _ (List.getElem_mem hlt) ks'[k] W2 _ _ F1 G1 (HV.out.below hb2 (HF1.out.mono hB.size)) (HV2.out.below hb2 (HG1.out.mono hB.size)) (HF1.out.mono hB2.size) (HG1.out.mono hB2.size)).mono ?_
        rintro e w' ⟨rfl, hB'⟩
        have hB3 := hB2.trans (hB'.mono hB2.size)
        by_cases he : ks[k] = ks'[k]
        · rw [(V.same_iff _ _).2 he]
          have hT2 : Hid (ks.take (k + 1) = ks'.take (k + 1)) := by rw [take_snoc' ks k hlt, take_snoc' ks' k hlt', HT.out, he]; rfl
          clear he
          go_wp2
          go_roundw
          case rel => exact ⟨k + 1, by omega, by go_num, hT2, hB3⟩
          case measure => simp [intOf]; omega
        · rw [V.same_false he]
          have hf := Lib.hid (V.sames_false (ks := ks) (ks' := ks') (fun h => he (by simp only [h])))
          clear he
          go_wp2
          go_ret
          exact ⟨ret_bool hf.out.symm, hB3⟩
      · have hT := HT.out
        rw [List.take_of_length_le (by omega), List.take_of_length_le (by omega)] at hT
        have hf := Lib.hid ((V.sames_iff ks ks').2 hT)
        clear hT
        go_wp2
        go_ret
        exact ⟨ret_bool hf.out.symm, hB⟩
  · have tl : ((ks.length : Int) != (ks'.length : Int)) = true := by rw [bne_iff_ne]; omega
    have hf := Lib.hid (V.sames_false (ks := ks) (ks' := ks') (fun h => hl (by rw [h])))
    clear hl
    go_enter Try.func111, Try.ntmps111
    go_wp2
    go_ret
    exact ⟨ret_bool hf.out.symm, Below.refl _ _⟩

set_option maxRecDepth 100000 in
set_option maxHeartbeats 1600000 in
theorem impl_ValueSame_all : ∀ a, SameImplV a := V.ind fun c n ks ih b w cs ds F G hv hv' hF hG => by
  obtain ⟨c', n', ks'⟩ := b
  obtain ⟨kv, rfl, hk⟩ := (VR_iff _ _ _).1 hv
  obtain ⟨kv', rfl, hk'⟩ := (VR_iff _ _ _).1 hv'
  have IH := Lib.hid ih
  clear ih hv hv'
  have HK := Lib.hid hk
  have HK' := Lib.hid hk'
  obtain ⟨A, cap, rfl, hc1, hc2⟩ := hk.form
  obtain ⟨A', cap', rfl, hc3, hc4⟩ := hk'.form
  clear hk hk'
  have HF := Lib.hid hF
  have HG := Lib.hid hG
  clear hF hG
  by_cases e0 : c = c'
  · subst e0
    have t0 : (c != c) = false := by simp
    have s0 : (c == c) = true := by simp
    by_cases e1 : n = n'
    · subst e1
      have t1 : (n != n) = false := by simp
      have s1 : (n == n) = true := by simp
      go_enter Try.func57, Try.ntmps57
      go_wp2_with fail
      obtain ⟨W2, hW2⟩ : ∃ W2, W2 = (w.alloc (.cells #[.int .i64 c, .int .i64 n, .slice A ks.length cap] 41)).alloc (.cells #[.int .i64 c, .int .i64 n, .slice A' ks'.length cap'] 41) := ⟨_, rfl⟩
      have hB2 : Below w.heap.size w W2 := by rw [hW2]; exact ((Below.refl _ _).alloc (Nat.le_refl _) _).alloc (by simp) _
      rw [← hW2]
      clear hW2
      refine (EqualFunc_ofV ks IH.out ks' W2 _ _ F G (ArrV.below HK.out hB2 HF.out) (ArrV.below HK'.out hB2 HG.out) (HF.out.mono hB2.size) (HG.out.mono hB2.size)).mono ?_
      rintro e w' ⟨rfl, hB'⟩
      have hB3 := hB2.trans (hB'.mono hB2.size)
      have hf : Hid (V.sames ks ks' = V.same ⟨c, n, ks⟩ ⟨c, n, ks'⟩) := by simp [Hid, V.same]
      generalize V.sames ks ks' = bb at *
      go_wp2
      go_ret
      exact ⟨ret_bool hf.out, hB3⟩
    · have t1 : (n != n') = true := by simpa using e1
      have s1 : (n == n') = false := by simpa using e1
      have hf := Lib.hid (V.same_false (a := ⟨c, n, ks⟩) (b := ⟨c, n', ks'⟩) (fun h => e1 (by injection h)))
      clear e1
      go_enter Try.func57, Try.ntmps57
      go_wp2
      go_ret
      exact ⟨ret_bool hf.out.symm, ((Below.refl _ _).alloc (Nat.le_refl _) _).alloc (by simp) _⟩
  · have t0 : (c != c') = true := by simpa using e0
    have s0 : (c == c') = false := by simpa using e0
    have hf := Lib.hid (V.same_false (a := ⟨c, n, ks⟩) (b := ⟨c', n', ks'⟩) (fun h => e0 (by injection h)))
    clear e0
    go_enter Try.func57, Try.ntmps57
    go_wp2
    go_ret
    exact ⟨ret_bool hf.out.symm, ((Below.refl _ _).alloc (Nat.le_refl _) _).alloc (by simp) _⟩

theorem impl_ValueSame (a b : V) (w : World) (cs ds : List Value) (F G : List Nat) (hx : VR w a cs F) (hy : VR w b ds G) (hF : Under w.heap.size F) (hG : Under w.heap.size G) :
    Calls Try.prog 57 #[.agg cs.toArray, .agg ds.toArray] w fun e w' => e = .returned (.bool (V.same a b)) ∧ Below w.heap.size w w' := impl_ValueSame_all a b w cs ds F G hx hy hF hG
end Go.Proofs.Ytbffkgfhcmigaaa

namespace Go.Proofs.Ytbffkgfhcmigaaa
open Go.ChangeShapes Go.WideShapes Go.ChangeAt Go.RowKit
set_option maxRecDepth 100000

theorem cellsOf_u8 : Try.prog.cellsOf 5 = 1 := by kernel_rfl
theorem open_By_cells {H : Type} {enc : TypeId × Value → H} {w : World} {base : Nat} {spare : Nat → Bool} {held : Bool} (fuel : Nat) (cs : List Value) (x : DataW H × List MemPlace)
    (h : DataW.trod enc Try.prog w base spare held fuel 5 cs = some x) : ∃ v F, ByR w v cs F ∧ Under w.heap.size F := by
  cases fuel with
  | zero => simp [DataW.trod] at h
  | succ n =>
  obtain ⟨i0, e0, -, e2⟩ := DataW.trod_int Try.underlying5 h
  have hw : IntKind.u8.min ≤ i0 ∧ i0 ≤ IntKind.u8.max := by simpa [Lit.wf] using e2
  have h0 : IntKind.u8.min = 0 := rfl
  have h1 : IntKind.u8.max = 255 := rfl
  exact ⟨i0, [], ⟨e0, rfl, by omega, by omega⟩, Under.nil _⟩
theorem open_Bytes {H : Type} {enc : TypeId × Value → H} {w : World} {base : Nat} {spare : Nat → Bool} {held : Bool} {r : Reach} {b0 : Nat} {v : Value} {d : DataW H} {ps : List MemPlace} (hval : Value.okWide Try.prog w r b0 83 v)
    (h : DataW.Trod enc Try.prog w base spare held 83 v d ps) : ∃ (x : List Int) (F : List Nat), Arr w (ByR w) x v F ∧ Under w.heap.size F :=
  open_slice_arg (ByR w) Try.underlying83 cellsOf_u8 (by decide) (fun n ds y hd => open_By_cells n ds y hd) hval h
end Go.Proofs.Ytbffkgfhcmigaaa
