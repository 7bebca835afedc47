/-
  Lemmas and contracts of functions: l3Mutate of the reference: a pattern with one change. Conditions: not too many nodes, the reader has given no more than 800000 numbers. DrawPatternValid of the reference: a world, a type and a pattern, all new. Conditions: none. DrawPatternVars of the reference: a world, a type and a pattern. Conditions: none. only and isVar of the program; what a node of a pattern is, kind by kind. Conditions: none.
-/
import Derived.Test.YtilndhmegaccmaaKAI
import Derived.Test.YtilndhmegaccmaaKAE
import Derived.Test.YtilndhmegaccmaaKAG
import Derived.Test.YtilndhmegaccmaaKAF
import Derived.Test.YtilndhmegaccmaaKAA

set_option linter.unusedVariables false
set_option linter.unusedSimpArgs false
set_option maxRecDepth 100000
set_option maxHeartbeats 1600000

namespace Go.Proofs.Ytilndhmegaccmaa
open Go.RowKit
def MutP (a : P) (p g : Nat) (G : List Nat) (w : World) (e : Ending) (w' : World) : Prop := ∃ (b : P) (cs : List Value) (F : List Nat) (q : Nat), e = .returned (.agg cs.toArray) ∧ PR w' b cs F ∧ (∀ x ∈ F, x < w'.heap.size ∧ x ≠ g ∧ (x ∈ G ∨ w.heap.size ≤ x)) ∧ nodesP b ≤ nodesP a + 1 ∧ Rd w' g q ∧ q ≤ p + 2 ∧ Chg [g] w w'
theorem PR_one (w : World) (x : P) (cs : List Value) (G : List Nat) (h : PR w x cs G) : ∀ u ∈ cs, u.oneCell' = true := by
 obtain ⟨kv, rfl, ha⟩ := (zA4 _ _ _).1 h
 obtain ⟨A, cap, rfl, -, -⟩ := ha.form
 simp [Value.oneCell']
theorem Own.under_any2 {α : Type} {w : World} {B k : Nat} {E : TypeId} {R : World → α → List Value → List Nat → Prop} {vs : List α} {v : Value} {F : List Nat} (h : Own w B E k R vs v F) : Under w.heap.size (if vs = [] then [] else rowOf v ++ F) := by
 by_cases hx : vs = []
 ·rw [if_pos hx]; exact Under.nil _
 ·rw [if_neg hx]
  intro b hb
  rcases List.mem_append.1 hb with hb | hb
  ·exact (h.row b hb).2
  ·exact h.under b hb
theorem Own.deeper {α : Type} {w w' : World} {B k : Nat} {E : TypeId} {R : World → α → List Value → List Nat → Prop} {vs : List α} {v : Value} {F G : List Nat} (hR : ∀ x cs G, Kept G w w' → R w x cs G → R w' x cs G) (h : Own w B E k R vs v F) (hc : Chg G w w') (h1 : ∀ g ∈ rowOf v, g ∉ G) (h2 : ∀ g ∈ F, g ∉ G) : Own w' B E k R vs v F :=
 h.mono hR (hc.kept (fun b hb => by
  rcases List.mem_append.1 hb with h' | h'
  ·exact (h.row b h').2
  ·exact h.under b h') (fun b hb => by
  rcases List.mem_append.1 hb with h' | h'
  ·exact h1 b h'
  ·exact h2 b h')) hc.size
theorem Own.head {w : World} {B : Nat} {E : TypeId} {k : P} {ks : List P} {F : List Nat} {g n cap : Nat} (h : Own w B E 6 PR (k :: ks) (.slice (some ⟨g, 0, none⟩) n cap) F) (new : List Value) (hnew : new.length = 6) (y : P) (hy : ∀ w, PR w y new []) :
  ∃ F', (∀ b ∈ F', b ∈ F) ∧ Own (putCells w g 0 new) B E 6 PR (y :: ks) (.slice (some ⟨g, 0, none⟩) n cap) F' := by
 obtain ⟨cs, h1, h2, h3, h4⟩ := h
 obtain ⟨c1, c2, F1, F2, rfl, rfl, k1, k2⟩ := h2
 have hl1 : c1.length = 6 := PR_len k c1 F1 k1
 obtain ⟨hlen, hown⟩ := h1
 rcases hown with ⟨hv, -⟩ | ⟨g', cap', cur, hv, hb, hg, hc, hm, hs, ht⟩
 ·cases hv
 ·cases hv
  simp only [List.length_cons] at hlen hc ht
  have hroom : 0 + new.length ≤ cur.size := by
   rw [hs, hnew]
   have : 1 ≤ cap := by omega
   omega
  obtain ⟨C', g1, g2, g3, g4⟩ := Blk.put new 0 (show Blk w g E cur from hg) hroom
  have hgF : g ∉ F2 := fun hx => h4 g (by simp [zA6]) (List.mem_append.2 (.inr hx))
  have hgr := (putCells_grown g new w 0).1
  have hU2 : Under w.heap.size F2 := h3.sub fun b hb => List.mem_append.2 (.inr hb)
  have hkp : Kept F2 w (putCells w g 0 new) := fun b hb => hgr.block b (hU2 b hb) (fun e => by cases e; exact hgF hb)
  refine ⟨F2, fun b hb => List.mem_append.2 (.inr hb), new ++ c2, ⟨?_, .inr ⟨g, cap, C', rfl, hb, g1, hc, hm, g2.trans hs, ?_⟩⟩, ⟨new, c2, [], F2, rfl, rfl, hy _, ?_⟩, hU2.mono hgr.size, fun x hx hxF => ?_⟩
  ·rw [List.length_append] at hlen ⊢
   rw [hnew]; rw [hl1] at hlen; exact hlen
  ·apply List.ext_getElem?
   intro j
   have hlt : (C'.toList.take ((ks.length + 1) * 6))[j]? = if j < (ks.length + 1) * 6 then C'[j]? else none := by
    rw [List.getElem?_take]
    simp
   have hlt2 : (cur.toList.take ((ks.length + 1) * 6))[j]? = if j < (ks.length + 1) * 6 then cur[j]? else none := by
    rw [List.getElem?_take]
    simp
   refine hlt.trans ?_
   have hlt2 := (congrArg (fun l => l[j]?) ht).symm.trans hlt2
   by_cases hj : j < 6
   ·rw [if_pos (by omega), List.getElem?_append_left (by omega)]
    have := g3 j (by omega)
    rw [Nat.zero_add] at this
    exact this
   ·have e1 : (new ++ c2)[j]? = c2[j - 6]? := by rw [List.getElem?_append_right (by omega), hnew]
    have e2 : (c1 ++ c2)[j]? = c2[j - 6]? := by rw [List.getElem?_append_right (by omega), hl1]
    rw [e1, ← e2, hlt2, g4 j (.inr (by omega))]
  ·exact k2.mono fun x _ ds H hH hr => PR.mono x ds H (fun b hb => hkp b (hH b hb)) hr
  ·rw [zA6, zy1] at hx
   subst hx
   exact hgF hxF
theorem Own.cell0 {w : World} {B : Nat} {E : TypeId} {k : P} {ks : List P} {F : List Nat} {A : Option Addr} {n cap : Nat} (h : Own w B E 6 PR (k :: ks) (.slice A n cap) F) :
  ∃ g C, A = some ⟨g, 0, none⟩ ∧ B ≤ g ∧ Blk w g E C ∧ 6 ≤ C.size := by
 obtain ⟨cs, h1, -⟩ := h
 rcases h1.2 with ⟨hv, hn⟩ | ⟨g', cap', cur, hv, hb, hg, hc, hm, hs, ht⟩
 ·simp at hn
 ·cases hv
  simp only [List.length_cons] at hc
  exact ⟨g', cur, rfl, hb, hg, by rw [hs]; omega⟩
set_option maxHeartbeats 8000000 in
theorem spec_l3Mutate (a : P) (hn : nodesP a ≤ 2000) (w : World) (p g : Nat) (hr : Rd w g p) (hp : p ≤ 800000) (cs : List Value) (G : List Nat) (hv : PR w a cs G) (hG : Under w.heap.size G) (hGg : ∀ b ∈ G, b ≠ g) :
  Calls Try.prog 53 #[.pointer (some ⟨g, 0, none⟩), .agg cs.toArray] w (MutP a p g G w) := by
 have hgl := hr.lt
 obtain ⟨kv, rfl, ha⟩ := (zA4 _ _ _).1 hv
 obtain ⟨A4, cap4, rfl, hc3, hc4⟩ := ha.form
 obtain ⟨i0, hi, hz0, hz1, hz2⟩ := info_parts info_PE
 have hkl : a.ks.length ≤ 2000 := by rw [zA5, P.sizes_eq] at hn; omega
 have HGG := jj hGg
 have HI := jj hi
 have HZ0 := jj hz0
 have HZ1 := jj hz1
 have HZ2 := jj hz2
 have HA := jj ha
 have HG := jj hG
 have HR := jj hr
 clear hi hz0 hz1 hz2 ha hG hr
 clear hv hGg hn
 have hB0 : Below w.heap.size w (((w.alloc (.cells #[.int .i64 a.op, .int .i64 a.ct, .int .i64 a.n, .int .i64 a.m, .int .i64 a.va, .slice A4 a.ks.length cap4] 25)).alloc (.cells #[.int .i64 0, .int .i64 0, .int .i64 0, .int .i64 0, .int .i64 0, .slice none 0 0] 25)).alloc (.cells #[.int .i64 a.op, .int .i64 a.ct, .int .i64 a.n, .int .i64 a.m, .int .i64 a.va, .slice A4 a.ks.length cap4] 25)) := (((zy2 _ _).alloc (zz8 _) _).alloc (by simp) _).alloc (by simp; omega) _
 have KV : Hid (Blk (((w.alloc (.cells #[.int .i64 a.op, .int .i64 a.ct, .int .i64 a.n, .int .i64 a.m, .int .i64 a.va, .slice A4 a.ks.length cap4] 25)).alloc (.cells #[.int .i64 0, .int .i64 0, .int .i64 0, .int .i64 0, .int .i64 0, .slice none 0 0] 25)).alloc (.cells #[.int .i64 a.op, .int .i64 a.ct, .int .i64 a.n, .int .i64 a.m, .int .i64 a.va, .slice A4 a.ks.length cap4] 25)) w.heap.size 25 #[.int .i64 a.op, .int .i64 a.ct, .int .i64 a.n, .int .i64 a.m, .int .i64 a.va, .slice A4 a.ks.length cap4]) := ((Blk.new w _ _).same (Below.heap_alloc _ _ _ (by simp))).same (Below.heap_alloc _ _ _ (by simp; omega))
 have KR : Hid (Blk (((w.alloc (.cells #[.int .i64 a.op, .int .i64 a.ct, .int .i64 a.n, .int .i64 a.m, .int .i64 a.va, .slice A4 a.ks.length cap4] 25)).alloc (.cells #[.int .i64 0, .int .i64 0, .int .i64 0, .int .i64 0, .int .i64 0, .slice none 0 0] 25)).alloc (.cells #[.int .i64 a.op, .int .i64 a.ct, .int .i64 a.n, .int .i64 a.m, .int .i64 a.va, .slice A4 a.ks.length cap4] 25)) (w.heap.size + 1) 25 #[.int .i64 0, .int .i64 0, .int .i64 0, .int .i64 0, .int .i64 0, .slice none 0 0]) := (zA8 w _ 25 _).same (Below.heap_alloc _ _ _ (by simp))
 have KD : Hid (Blk (((w.alloc (.cells #[.int .i64 a.op, .int .i64 a.ct, .int .i64 a.n, .int .i64 a.m, .int .i64 a.va, .slice A4 a.ks.length cap4] 25)).alloc (.cells #[.int .i64 0, .int .i64 0, .int .i64 0, .int .i64 0, .int .i64 0, .slice none 0 0] 25)).alloc (.cells #[.int .i64 a.op, .int .i64 a.ct, .int .i64 a.n, .int .i64 a.m, .int .i64 a.va, .slice A4 a.ks.length cap4] 25)) (w.heap.size + 2) 25 #[.int .i64 a.op, .int .i64 a.ct, .int .i64 a.n, .int .i64 a.m, .int .i64 a.va, .slice A4 a.ks.length cap4]) := by
  have h := zA8 (w.alloc (.cells #[.int .i64 a.op, .int .i64 a.ct, .int .i64 a.n, .int .i64 a.m, .int .i64 a.va, .slice A4 a.ks.length cap4] 25)) (.cells #[.int .i64 0, .int .i64 0, .int .i64 0, .int .i64 0, .int .i64 0, .slice none 0 0] 25) 25 #[.int .i64 a.op, .int .i64 a.ct, .int .i64 a.n, .int .i64 a.m, .int .i64 a.va, .slice A4 a.ks.length cap4]
  rw [World.size_alloc] at h
  exact h
 have hs3 : ((((w.alloc (.cells #[.int .i64 a.op, .int .i64 a.ct, .int .i64 a.n, .int .i64 a.m, .int .i64 a.va, .slice A4 a.ks.length cap4] 25)).alloc (.cells #[.int .i64 0, .int .i64 0, .int .i64 0, .int .i64 0, .int .i64 0, .slice none 0 0] 25)).alloc (.cells #[.int .i64 a.op, .int .i64 a.ct, .int .i64 a.n, .int .i64 a.m, .int .i64 a.va, .slice A4 a.ks.length cap4] 25))).heap.size = w.heap.size + 3 := by simp
 have hB3 : Below w.heap.size w ((((w.alloc (.cells #[.int .i64 a.op, .int .i64 a.ct, .int .i64 a.n, .int .i64 a.m, .int .i64 a.va, .slice A4 a.ks.length cap4] 25)).alloc (.cells #[.int .i64 0, .int .i64 0, .int .i64 0, .int .i64 0, .int .i64 0, .slice none 0 0] 25)).alloc (.cells #[.int .i64 a.op, .int .i64 a.ct, .int .i64 a.n, .int .i64 a.m, .int .i64 a.va, .slice A4 a.ks.length cap4] 25)).alloc (.cells #[] 25)) := hB0.alloc hB0.size _
 have hO0 : Own ((((w.alloc (.cells #[.int .i64 a.op, .int .i64 a.ct, .int .i64 a.n, .int .i64 a.m, .int .i64 a.va, .slice A4 a.ks.length cap4] 25)).alloc (.cells #[.int .i64 0, .int .i64 0, .int .i64 0, .int .i64 0, .int .i64 0, .slice none 0 0] 25)).alloc (.cells #[.int .i64 a.op, .int .i64 a.ct, .int .i64 a.n, .int .i64 a.m, .int .i64 a.va, .slice A4 a.ks.length cap4] 25)).alloc (.cells #[] 25)) (w.heap.size + 3) 25 6 PR ([] : List P) (.slice (some ⟨w.heap.size + 3, 0, none⟩) 0 0) [] := by
  have h := Own.made (((w.alloc (.cells #[.int .i64 a.op, .int .i64 a.ct, .int .i64 a.n, .int .i64 a.m, .int .i64 a.va, .slice A4 a.ks.length cap4] 25)).alloc (.cells #[.int .i64 0, .int .i64 0, .int .i64 0, .int .i64 0, .int .i64 0, .slice none 0 0] 25)).alloc (.cells #[.int .i64 a.op, .int .i64 a.ct, .int .i64 a.n, .int .i64 a.m, .int .i64 a.va, .slice A4 a.ks.length cap4] 25)) (w.heap.size + 3) 25 6 PR #[] 0 (by rw [hs3]; exact zz8 _) (by simp [maxLen]) rfl
  rw [hs3] at h
  exact h
 have hX0 : Arr ((((w.alloc (.cells #[.int .i64 a.op, .int .i64 a.ct, .int .i64 a.n, .int .i64 a.m, .int .i64 a.va, .slice A4 a.ks.length cap4] 25)).alloc (.cells #[.int .i64 0, .int .i64 0, .int .i64 0, .int .i64 0, .int .i64 0, .slice none 0 0] 25)).alloc (.cells #[.int .i64 a.op, .int .i64 a.ct, .int .i64 a.n, .int .i64 a.m, .int .i64 a.va, .slice A4 a.ks.length cap4] 25)).alloc (.cells #[] 25)) (PR ((((w.alloc (.cells #[.int .i64 a.op, .int .i64 a.ct, .int .i64 a.n, .int .i64 a.m, .int .i64 a.va, .slice A4 a.ks.length cap4] 25)).alloc (.cells #[.int .i64 0, .int .i64 0, .int .i64 0, .int .i64 0, .int .i64 0, .slice none 0 0] 25)).alloc (.cells #[.int .i64 a.op, .int .i64 a.ct, .int .i64 a.n, .int .i64 a.m, .int .i64 a.va, .slice A4 a.ks.length cap4] 25)).alloc (.cells #[] 25))) a.ks (.slice A4 a.ks.length cap4) G := ArrP.below HA.out hB3 HG.out
 have hs4 : ((((w.alloc (.cells #[.int .i64 a.op, .int .i64 a.ct, .int .i64 a.n, .int .i64 a.m, .int .i64 a.va, .slice A4 a.ks.length cap4] 25)).alloc (.cells #[.int .i64 0, .int .i64 0, .int .i64 0, .int .i64 0, .int .i64 0, .slice none 0 0] 25)).alloc (.cells #[.int .i64 a.op, .int .i64 a.ct, .int .i64 a.n, .int .i64 a.m, .int .i64 a.va, .slice A4 a.ks.length cap4] 25)).alloc (.cells #[] 25)).heap.size = w.heap.size + 4 := by simp
 obtain ⟨v2, w5, F2, hr5, ho5, hG5, hgr5, hat5⟩ := run_append_all (P := Try.prog) 23 23 i0 _ 64 Try.underlying23 HI.out HZ0.out HZ1.out HZ2.out rfl (by decide) PR_len' PR_mono' PR_one hO0 hX0 (HG.out.mono hB3.size) (fun x hx hxG => by rw [zA6, zy1] at hx; subst hx; have := HG.out _ hxG; omega) (by simp; omega) (by simp; omega) (by rw [hs4]; omega)
 rw [List.nil_append, List.nil_append] at ho5
 obtain ⟨vA, vcap, rfl, hvc1, hvc2⟩ := ho5.form
 have hB5 : Below w.heap.size w w5 := hB3.grown hgr5 hB3.size (fun x hx => by
  have hx : some (w.heap.size + 3) = some x := hx
  cases hx; omega)
 have hkeep5 : ∀ (b : Nat) (cs : Array Value), b < w.heap.size + 3 → Blk (((w.alloc (.cells #[.int .i64 a.op, .int .i64 a.ct, .int .i64 a.n, .int .i64 a.m, .int .i64 a.va, .slice A4 a.ks.length cap4] 25)).alloc (.cells #[.int .i64 0, .int .i64 0, .int .i64 0, .int .i64 0, .int .i64 0, .slice none 0 0] 25)).alloc (.cells #[.int .i64 a.op, .int .i64 a.ct, .int .i64 a.n, .int .i64 a.m, .int .i64 a.va, .slice A4 a.ks.length cap4] 25)) b 25 cs → Blk w5 b 25 cs := fun b cs hb h => (h.same (Below.heap_alloc _ _ _ (by rw [hs3]; exact hb))).same (hgr5.block _ (by rw [hs4]; omega) (fun e => by
  have e : some b = some (w.heap.size + 3) := e
  cases e; omega))
 have KV5 := jj (hkeep5 _ _ (by omega) KV.out)
 have KR5 := jj (hkeep5 _ _ (by omega) KR.out)
 have KD5 := jj (hkeep5 _ _ (by omega) KD.out)
 have HO5 := jj ho5
 have HG5 := jj hG5
 have HRUN := jj hr5
 have HR5 := jj (HR.out.below hB5)
 have HB5 := jj hB5
 clear hr5 ho5 hG5 hgr5 hat5 hkeep5 hX0 hO0 hB3 hB0 KV KR KD hs3 hs4 hB5
 go_enter Try.func53, Try.ntmps53
 go_wp2_with (at_builtin; refine Halt.mk ?_)
 refine Halt.of (wpList_append_run rfl _ _ 23 rfl (by rfl) (by rfl) HRUN.out ?_)
 clear HRUN
 have e0 : w5.cell? ⟨w.heap.size + 2, 0, none⟩ = some (.int .i64 a.op) := (KD5.out.cell 0).trans (by simp)
 have f0 := KD5.out.frozen 0
 have e1 : w5.cell? ⟨w.heap.size + 2, 1, none⟩ = some (.int .i64 a.ct) := (KD5.out.cell 1).trans (by simp)
 have f1 := KD5.out.frozen 1
 have e2 : w5.cell? ⟨w.heap.size + 2, 2, none⟩ = some (.int .i64 a.n) := (KD5.out.cell 2).trans (by simp)
 have f2 := KD5.out.frozen 2
 have e3 : w5.cell? ⟨w.heap.size + 2, 3, none⟩ = some (.int .i64 a.m) := (KD5.out.cell 3).trans (by simp)
 have f3 := KD5.out.frozen 3
 have e4 : w5.cell? ⟨w.heap.size + 2, 4, none⟩ = some (.int .i64 a.va) := (KD5.out.cell 4).trans (by simp)
 have f4 := KD5.out.frozen 4
 have e5 : w5.cell? ⟨w.heap.size + 2, 5, none⟩ = some (.slice A4 a.ks.length cap4) := (KD5.out.cell 5).trans (by simp)
 have f5 := KD5.out.frozen 5
 have elt := KD5.out.lt
 go_wp2_with fail
 clear e0 f0 e1 f1 e2 f2 e3 f3 e4 f4 e5 f5 elt
 obtain ⟨wp, hwp⟩ : ∃ X, X = w5.setCell ⟨w.heap.size + 2, 5, none⟩ (.slice vA a.ks.length vcap) := ⟨_, rfl⟩
 have hBp : Below w.heap.size w wp := by rw [hwp]; exact HB5.out.setCell (by show w.heap.size ≤ w.heap.size + 2; omega) _
 have KDp : Hid (Blk wp (w.heap.size + 2) 25 #[.int .i64 a.op, .int .i64 a.ct, .int .i64 a.n, .int .i64 a.m, .int .i64 a.va, .slice vA a.ks.length vcap]) := by rw [hwp]; exact KD5.out.set_ 5 _
 have KRp : Hid (Blk wp (w.heap.size + 1) 25 #[.int .i64 0, .int .i64 0, .int .i64 0, .int .i64 0, .int .i64 0, .slice none 0 0]) := by rw [hwp]; exact KR5.out.same (zz7 _ _ _ _ (by show w.heap.size + 1 ≠ w.heap.size + 2; omega))
 have HFG : Hid (∀ b ∈ F2, b ≠ g ∧ b ≠ w.heap.size + 2 ∧ b ≠ w.heap.size + 1 ∧ b ∈ G) := fun b hb => by
  have h1 := HG.out b (HG5.out b hb)
  exact ⟨HGG.out b (HG5.out b hb), by omega, by omega, HG5.out b hb⟩
 have HOp : Hid (Own wp (w.heap.size + 3) 25 6 PR a.ks (.slice vA a.ks.length vcap) F2) := by
  rw [hwp]
  exact HO5.out.set (fun w w' x cs G hk h => PR_mono' w w' x cs G hk h) _ (fun h => by have := (HO5.out.row _ h).1; omega) (fun h => (HFG.out _ h).2.1 rfl)
 have HRp : Hid (Rd wp g p) := by rw [hwp]; exact HR5.out.keep fun b hb => zz7 _ _ _ _ (by show b ≠ w.heap.size + 2; omega)
 rw [← hwp]
 clear hwp KD5 KR5 HO5 HR5 HB5 KV5
 refine (zAF 30 p g wp HRp.out (by omega) (by omega) (by omega)).mono ?_
 rintro e w6 ⟨r, rfl, hr30, hR6, hC6⟩
 have HC6 : Hid (Chg [g] w w6) := (Chg.of_below hBp).trans hC6
 have HR6 := jj hR6
 have KD6 : Hid (Blk w6 (w.heap.size + 2) 25 #[.int .i64 a.op, .int .i64 a.ct, .int .i64 a.n, .int .i64 a.m, .int .i64 a.va, .slice vA a.ks.length vcap]) := KDp.out.same (hC6.block _ KDp.out.lt (by rw [zy1]; omega))
 have KR6 : Hid (Blk w6 (w.heap.size + 1) 25 #[.int .i64 0, .int .i64 0, .int .i64 0, .int .i64 0, .int .i64 0, .slice none 0 0]) := KRp.out.same (hC6.block _ KRp.out.lt (by rw [zy1]; omega))
 have HO6 := jj (HOp.out.deeper (fun x cs G hk h => PR_mono' _ _ x cs G hk h) hC6 (fun b hb h => by rw [zy1] at h; have := (HOp.out.row b hb).1; omega) (fun b hb h => by rw [zy1] at h; exact (HFG.out b hb).1 h))
 have hz6 : w.heap.size + 3 ≤ w6.heap.size := by have := KD6.out.lt; omega
 clear hBp KDp KRp HOp HRp hR6 hC6
 by_cases h0 : r = 0
 ·subst h0
  go_wp2_with fail
  have hLit : LitN (w6.alloc (.cells ([0, 7, 1, 2, 5].map (Value.int .i64)).toArray 3)) w6.heap.size [0, 7, 1, 2, 5] := LitN.new _ _ (by decide)
  have hb7 : Below w6.heap.size w6 (w6.alloc (.cells ([0, 7, 1, 2, 5].map (Value.int .i64)).toArray 3)) := (zy2 _ _).alloc (zz8 _) _
  have hR7 : Rd (w6.alloc (.cells ([0, 7, 1, 2, 5].map (Value.int .i64)).toArray 3)) g (p + 1) := HR6.out.below hb7
  have hLit2 := hLit
  simp only [List.map_cons, List.map_nil] at hLit2
  obtain ⟨w7, hw7⟩ : ∃ X, X = (w6.alloc (.cells ([0, 7, 1, 2, 5].map (Value.int .i64)).toArray 3)) := ⟨_, rfl⟩
  have hw7' := hw7
  simp only [List.map_cons, List.map_nil] at hw7'
  rw [← hw7] at hLit hb7 hR7
  first | rw [← hw7] | rw [← hw7']
  clear hw7 hw7' hLit2
  have hg6 : g < w6.heap.size := HR6.out.lt
  refine (num_any [0, 7, 1, 2, 5] (by decide) (by decide) (p + 1) g w7 hR7 (by omega) _ _ hLit.2 (fun x hx => by rw [List.mem_singleton.1 hx]; exact hLit.1) (fun e => by rw [zy1] at e; omega)).mono ?_
  rintro e w8 ⟨nx, -, rfl, hR8, hq8⟩
  have hC68 : Chg [g] w6 w8 := (Chg.of_below hb7).trans hq8
  have hC8 : Chg [g] w w8 := HC6.out.trans hC68
  have KD8 : Hid (Blk w8 (w.heap.size + 2) 25 #[.int .i64 a.op, .int .i64 a.ct, .int .i64 a.n, .int .i64 a.m, .int .i64 a.va, .slice vA a.ks.length vcap]) := KD6.out.same (hC68.block _ KD6.out.lt (by rw [zy1]; omega))
  have KR8 : Hid (Blk w8 (w.heap.size + 1) 25 #[.int .i64 0, .int .i64 0, .int .i64 0, .int .i64 0, .int .i64 0, .slice none 0 0]) := KR6.out.same (hC68.block _ KR6.out.lt (by rw [zy1]; omega))
  have HO8 := jj (HO6.out.deeper (fun x cs G hk h => PR_mono' _ _ x cs G hk h) hC68 (fun b hb h => by rw [zy1] at h; have := (HO6.out.row b hb).1; omega) (fun b hb h => by rw [zy1] at h; exact (HFG.out b hb).1 h))
  have HO9 : Hid (Own (w8.setCell ⟨w.heap.size + 2, 0, none⟩ (.int .i64 nx)) (w.heap.size + 3) 25 6 PR a.ks (.slice vA a.ks.length vcap) F2) := HO8.out.set (fun w w' x cs G hk h => PR_mono' w w' x cs G hk h) _ (fun h => by have := (HO8.out.row _ h).1; omega) (fun h => (HFG.out _ h).2.1 rfl)
  have KR9 : Hid (Blk (w8.setCell ⟨w.heap.size + 2, 0, none⟩ (.int .i64 nx)) (w.heap.size + 1) 25 #[.int .i64 0, .int .i64 0, .int .i64 0, .int .i64 0, .int .i64 0, .slice none 0 0]) := KR8.out.same (zz7 _ _ _ _ (by show w.heap.size + 1 ≠ w.heap.size + 2; omega))
  have HR9 : Hid (Rd (w8.setCell ⟨w.heap.size + 2, 0, none⟩ (.int .i64 nx)) g (p + 1 + 1)) := hR8.keep fun b hb => zz7 _ _ _ _ (by show b ≠ w.heap.size + 2; omega)
  have HC9 : Hid (Chg [g] w (w8.setCell ⟨w.heap.size + 2, 0, none⟩ (.int .i64 nx))) := hC8.set_new (by omega)
  have e0 : w8.cell? ⟨w.heap.size + 2, 0, none⟩ = some (.int .i64 a.op) := (KD8.out.cell 0).trans (by simp)
  have f0 := KD8.out.frozen 0
  have e1 : w8.cell? ⟨w.heap.size + 2, 1, none⟩ = some (.int .i64 a.ct) := (KD8.out.cell 1).trans (by simp)
  have f1 := KD8.out.frozen 1
  have e2 : w8.cell? ⟨w.heap.size + 2, 2, none⟩ = some (.int .i64 a.n) := (KD8.out.cell 2).trans (by simp)
  have f2 := KD8.out.frozen 2
  have e3 : w8.cell? ⟨w.heap.size + 2, 3, none⟩ = some (.int .i64 a.m) := (KD8.out.cell 3).trans (by simp)
  have f3 := KD8.out.frozen 3
  have e4 : w8.cell? ⟨w.heap.size + 2, 4, none⟩ = some (.int .i64 a.va) := (KD8.out.cell 4).trans (by simp)
  have f4 := KD8.out.frozen 4
  have e5 : w8.cell? ⟨w.heap.size + 2, 5, none⟩ = some (.slice vA a.ks.length vcap) := (KD8.out.cell 5).trans (by simp)
  have f5 := KD8.out.frozen 5
  have elt := KD8.out.lt
  have r0 : w8.cell? ⟨w.heap.size + 1, 0, none⟩ = some (.int .i64 0) := (KR8.out.cell 0).trans (by simp)
  have s0 := KR8.out.frozen 0
  have r1 : w8.cell? ⟨w.heap.size + 1, 1, none⟩ = some (.int .i64 0) := (KR8.out.cell 1).trans (by simp)
  have s1 := KR8.out.frozen 1
  have r2 : w8.cell? ⟨w.heap.size + 1, 2, none⟩ = some (.int .i64 0) := (KR8.out.cell 2).trans (by simp)
  have s2 := KR8.out.frozen 2
  have r3 : w8.cell? ⟨w.heap.size + 1, 3, none⟩ = some (.int .i64 0) := (KR8.out.cell 3).trans (by simp)
  have s3 := KR8.out.frozen 3
  have r4 : w8.cell? ⟨w.heap.size + 1, 4, none⟩ = some (.int .i64 0) := (KR8.out.cell 4).trans (by simp)
  have s4 := KR8.out.frozen 4
  have r5 : w8.cell? ⟨w.heap.size + 1, 5, none⟩ = some (.slice none 0 0) := (KR8.out.cell 5).trans (by simp)
  have s5 := KR8.out.frozen 5
  have rlt := KR8.out.lt
  clear hLit hb7 hR7 hq8 hR8 hC68 hC8
  go_wp2
  clear e0 f0 e1 f1 e2 f2 e3 f3 e4 f4 e5 f5 elt
  clear r0 s0 r1 s1 r2 s2 r3 s3 r4 s4 r5 s5 rlt
  refine bodyPost_ret (zA1 rfl _ _ (w.heap.size + 1) 25 #[.int .i64 nx, .int .i64 a.ct, .int .i64 a.n, .int .i64 a.m, .int .i64 a.va, .slice vA a.ks.length vcap] (0, 0) _ rfl (KR9.out.six _ _ _ _ _ _) Try.underlying25 rfl rfl) rfl ?_
  have hfr := HO9.out.under_any2
  have hne : ∀ b ∈ (if a.ks = [] then [] else rowOf (.slice vA a.ks.length vcap) ++ F2), b ≠ w.heap.size + 1 := fun b hb e => by
   by_cases hx : a.ks = []
   ·rw [if_pos hx] at hb; cases hb
   ·rw [if_neg hx] at hb
    rcases List.mem_append.1 hb with hb | hb
    ·have := (HO9.out.row b hb).1; omega
    ·exact (HFG.out b hb).2.2.1 e
  have hkp : Kept (if a.ks = [] then [] else rowOf (.slice vA a.ks.length vcap) ++ F2) (w8.setCell ⟨w.heap.size + 2, 0, none⟩ (.int .i64 nx)) (((((((w8.setCell ⟨w.heap.size + 2, 0, none⟩ (.int .i64 nx)).setCell ⟨w.heap.size + 1, 0, none⟩ (.int .i64 nx)).setCell ⟨w.heap.size + 1, 1, none⟩ (.int .i64 a.ct)).setCell ⟨w.heap.size + 1, 2, none⟩ (.int .i64 a.n)).setCell ⟨w.heap.size + 1, 3, none⟩ (.int .i64 a.m)).setCell ⟨w.heap.size + 1, 4, none⟩ (.int .i64 a.va)).setCell ⟨w.heap.size + 1, 5, none⟩ (.slice vA a.ks.length vcap)) := zAM hne _ _ _ _ _ _
  refine ⟨⟨nx, a.ct, a.n, a.m, a.va, a.ks⟩, [.int .i64 nx, .int .i64 a.ct, .int .i64 a.n, .int .i64 a.m, .int .i64 a.va, .slice vA a.ks.length vcap], _, p + 1 + 1, rfl, (zA4 _ _ _).2 ⟨_, rfl, ArrP.mono HO9.out.arr hkp⟩, (fun b hb => ?_), (by rw [zA5, zA5]; exact Nat.le_succ _), zB2 HR9.out (by omega) _ _ _ _ _ _, by omega, zAL HC9.out (by omega) _ _ _ _ _ _⟩
  rw [zAN]
  refine ⟨hfr b hb, ?_⟩
  by_cases hx : a.ks = []
  ·rw [if_pos hx] at hb; cases hb
  ·rw [if_neg hx] at hb
   rcases List.mem_append.1 hb with hb | hb
   ·have := (HO9.out.row b hb).1; exact ⟨by omega, .inr (by omega)⟩
   ·exact ⟨(HFG.out b hb).1, .inl (HFG.out b hb).2.2.2⟩
 by_cases h1 : r = 1
 ·subst h1
  go_wp2_with fail
  have hLit : LitN (w6.alloc (.cells ([6, -1, 1].map (Value.int .i64)).toArray 3)) w6.heap.size [6, -1, 1] := LitN.new _ _ (by decide)
  have hb7 : Below w6.heap.size w6 (w6.alloc (.cells ([6, -1, 1].map (Value.int .i64)).toArray 3)) := (zy2 _ _).alloc (zz8 _) _
  have hR7 : Rd (w6.alloc (.cells ([6, -1, 1].map (Value.int .i64)).toArray 3)) g (p + 1) := HR6.out.below hb7
  have hLit2 := hLit
  simp only [List.map_cons, List.map_nil] at hLit2
  obtain ⟨w7, hw7⟩ : ∃ X, X = (w6.alloc (.cells ([6, -1, 1].map (Value.int .i64)).toArray 3)) := ⟨_, rfl⟩
  have hw7' := hw7
  simp only [List.map_cons, List.map_nil] at hw7'
  rw [← hw7] at hLit hb7 hR7
  first | rw [← hw7] | rw [← hw7']
  clear hw7 hw7' hLit2
  have hg6 : g < w6.heap.size := HR6.out.lt
  refine (num_any [6, -1, 1] (by decide) (by decide) (p + 1) g w7 hR7 (by omega) _ _ hLit.2 (fun x hx => by rw [List.mem_singleton.1 hx]; exact hLit.1) (fun e => by rw [zy1] at e; omega)).mono ?_
  rintro e w8 ⟨nx, -, rfl, hR8, hq8⟩
  have hC68 : Chg [g] w6 w8 := (Chg.of_below hb7).trans hq8
  have hC8 : Chg [g] w w8 := HC6.out.trans hC68
  have KD8 : Hid (Blk w8 (w.heap.size + 2) 25 #[.int .i64 a.op, .int .i64 a.ct, .int .i64 a.n, .int .i64 a.m, .int .i64 a.va, .slice vA a.ks.length vcap]) := KD6.out.same (hC68.block _ KD6.out.lt (by rw [zy1]; omega))
  have KR8 : Hid (Blk w8 (w.heap.size + 1) 25 #[.int .i64 0, .int .i64 0, .int .i64 0, .int .i64 0, .int .i64 0, .slice none 0 0]) := KR6.out.same (hC68.block _ KR6.out.lt (by rw [zy1]; omega))
  have HO8 := jj (HO6.out.deeper (fun x cs G hk h => PR_mono' _ _ x cs G hk h) hC68 (fun b hb h => by rw [zy1] at h; have := (HO6.out.row b hb).1; omega) (fun b hb h => by rw [zy1] at h; exact (HFG.out b hb).1 h))
  have HO9 : Hid (Own (w8.setCell ⟨w.heap.size + 2, 4, none⟩ (.int .i64 nx)) (w.heap.size + 3) 25 6 PR a.ks (.slice vA a.ks.length vcap) F2) := HO8.out.set (fun w w' x cs G hk h => PR_mono' w w' x cs G hk h) _ (fun h => by have := (HO8.out.row _ h).1; omega) (fun h => (HFG.out _ h).2.1 rfl)
  have KR9 : Hid (Blk (w8.setCell ⟨w.heap.size + 2, 4, none⟩ (.int .i64 nx)) (w.heap.size + 1) 25 #[.int .i64 0, .int .i64 0, .int .i64 0, .int .i64 0, .int .i64 0, .slice none 0 0]) := KR8.out.same (zz7 _ _ _ _ (by show w.heap.size + 1 ≠ w.heap.size + 2; omega))
  have HR9 : Hid (Rd (w8.setCell ⟨w.heap.size + 2, 4, none⟩ (.int .i64 nx)) g (p + 1 + 1)) := hR8.keep fun b hb => zz7 _ _ _ _ (by show b ≠ w.heap.size + 2; omega)
  have HC9 : Hid (Chg [g] w (w8.setCell ⟨w.heap.size + 2, 4, none⟩ (.int .i64 nx))) := hC8.set_new (by omega)
  have e0 : w8.cell? ⟨w.heap.size + 2, 0, none⟩ = some (.int .i64 a.op) := (KD8.out.cell 0).trans (by simp)
  have f0 := KD8.out.frozen 0
  have e1 : w8.cell? ⟨w.heap.size + 2, 1, none⟩ = some (.int .i64 a.ct) := (KD8.out.cell 1).trans (by simp)
  have f1 := KD8.out.frozen 1
  have e2 : w8.cell? ⟨w.heap.size + 2, 2, none⟩ = some (.int .i64 a.n) := (KD8.out.cell 2).trans (by simp)
  have f2 := KD8.out.frozen 2
  have e3 : w8.cell? ⟨w.heap.size + 2, 3, none⟩ = some (.int .i64 a.m) := (KD8.out.cell 3).trans (by simp)
  have f3 := KD8.out.frozen 3
  have e4 : w8.cell? ⟨w.heap.size + 2, 4, none⟩ = some (.int .i64 a.va) := (KD8.out.cell 4).trans (by simp)
  have f4 := KD8.out.frozen 4
  have e5 : w8.cell? ⟨w.heap.size + 2, 5, none⟩ = some (.slice vA a.ks.length vcap) := (KD8.out.cell 5).trans (by simp)
  have f5 := KD8.out.frozen 5
  have elt := KD8.out.lt
  have r0 : w8.cell? ⟨w.heap.size + 1, 0, none⟩ = some (.int .i64 0) := (KR8.out.cell 0).trans (by simp)
  have s0 := KR8.out.frozen 0
  have r1 : w8.cell? ⟨w.heap.size + 1, 1, none⟩ = some (.int .i64 0) := (KR8.out.cell 1).trans (by simp)
  have s1 := KR8.out.frozen 1
  have r2 : w8.cell? ⟨w.heap.size + 1, 2, none⟩ = some (.int .i64 0) := (KR8.out.cell 2).trans (by simp)
  have s2 := KR8.out.frozen 2
  have r3 : w8.cell? ⟨w.heap.size + 1, 3, none⟩ = some (.int .i64 0) := (KR8.out.cell 3).trans (by simp)
  have s3 := KR8.out.frozen 3
  have r4 : w8.cell? ⟨w.heap.size + 1, 4, none⟩ = some (.int .i64 0) := (KR8.out.cell 4).trans (by simp)
  have s4 := KR8.out.frozen 4
  have r5 : w8.cell? ⟨w.heap.size + 1, 5, none⟩ = some (.slice none 0 0) := (KR8.out.cell 5).trans (by simp)
  have s5 := KR8.out.frozen 5
  have rlt := KR8.out.lt
  clear hLit hb7 hR7 hq8 hR8 hC68 hC8
  go_wp2
  clear e0 f0 e1 f1 e2 f2 e3 f3 e4 f4 e5 f5 elt
  clear r0 s0 r1 s1 r2 s2 r3 s3 r4 s4 r5 s5 rlt
  refine bodyPost_ret (zA1 rfl _ _ (w.heap.size + 1) 25 #[.int .i64 a.op, .int .i64 a.ct, .int .i64 a.n, .int .i64 a.m, .int .i64 nx, .slice vA a.ks.length vcap] (0, 0) _ rfl (KR9.out.six _ _ _ _ _ _) Try.underlying25 rfl rfl) rfl ?_
  have hfr := HO9.out.under_any2
  have hne : ∀ b ∈ (if a.ks = [] then [] else rowOf (.slice vA a.ks.length vcap) ++ F2), b ≠ w.heap.size + 1 := fun b hb e => by
   by_cases hx : a.ks = []
   ·rw [if_pos hx] at hb; cases hb
   ·rw [if_neg hx] at hb
    rcases List.mem_append.1 hb with hb | hb
    ·have := (HO9.out.row b hb).1; omega
    ·exact (HFG.out b hb).2.2.1 e
  have hkp : Kept (if a.ks = [] then [] else rowOf (.slice vA a.ks.length vcap) ++ F2) (w8.setCell ⟨w.heap.size + 2, 4, none⟩ (.int .i64 nx)) (((((((w8.setCell ⟨w.heap.size + 2, 4, none⟩ (.int .i64 nx)).setCell ⟨w.heap.size + 1, 0, none⟩ (.int .i64 a.op)).setCell ⟨w.heap.size + 1, 1, none⟩ (.int .i64 a.ct)).setCell ⟨w.heap.size + 1, 2, none⟩ (.int .i64 a.n)).setCell ⟨w.heap.size + 1, 3, none⟩ (.int .i64 a.m)).setCell ⟨w.heap.size + 1, 4, none⟩ (.int .i64 nx)).setCell ⟨w.heap.size + 1, 5, none⟩ (.slice vA a.ks.length vcap)) := zAM hne _ _ _ _ _ _
  refine ⟨⟨a.op, a.ct, a.n, a.m, nx, a.ks⟩, [.int .i64 a.op, .int .i64 a.ct, .int .i64 a.n, .int .i64 a.m, .int .i64 nx, .slice vA a.ks.length vcap], _, p + 1 + 1, rfl, (zA4 _ _ _).2 ⟨_, rfl, ArrP.mono HO9.out.arr hkp⟩, (fun b hb => ?_), (by rw [zA5, zA5]; exact Nat.le_succ _), zB2 HR9.out (by omega) _ _ _ _ _ _, by omega, zAL HC9.out (by omega) _ _ _ _ _ _⟩
  rw [zAN]
  refine ⟨hfr b hb, ?_⟩
  by_cases hx : a.ks = []
  ·rw [if_pos hx] at hb; cases hb
  ·rw [if_neg hx] at hb
   rcases List.mem_append.1 hb with hb | hb
   ·have := (HO9.out.row b hb).1; exact ⟨by omega, .inr (by omega)⟩
   ·exact ⟨(HFG.out b hb).1, .inl (HFG.out b hb).2.2.2⟩
 by_cases h2 : r = 2
 ·subst h2
  go_wp2_with fail
  have hLit : LitN (w6.alloc (.cells ([9, -1, 1].map (Value.int .i64)).toArray 3)) w6.heap.size [9, -1, 1] := LitN.new _ _ (by decide)
  have hb7 : Below w6.heap.size w6 (w6.alloc (.cells ([9, -1, 1].map (Value.int .i64)).toArray 3)) := (zy2 _ _).alloc (zz8 _) _
  have hR7 : Rd (w6.alloc (.cells ([9, -1, 1].map (Value.int .i64)).toArray 3)) g (p + 1) := HR6.out.below hb7
  have hLit2 := hLit
  simp only [List.map_cons, List.map_nil] at hLit2
  obtain ⟨w7, hw7⟩ : ∃ X, X = (w6.alloc (.cells ([9, -1, 1].map (Value.int .i64)).toArray 3)) := ⟨_, rfl⟩
  have hw7' := hw7
  simp only [List.map_cons, List.map_nil] at hw7'
  rw [← hw7] at hLit hb7 hR7
  first | rw [← hw7] | rw [← hw7']
  clear hw7 hw7' hLit2
  have hg6 : g < w6.heap.size := HR6.out.lt
  refine (num_any [9, -1, 1] (by decide) (by decide) (p + 1) g w7 hR7 (by omega) _ _ hLit.2 (fun x hx => by rw [List.mem_singleton.1 hx]; exact hLit.1) (fun e => by rw [zy1] at e; omega)).mono ?_
  rintro e w8 ⟨nx, -, rfl, hR8, hq8⟩
  have hC68 : Chg [g] w6 w8 := (Chg.of_below hb7).trans hq8
  have hC8 : Chg [g] w w8 := HC6.out.trans hC68
  have KD8 : Hid (Blk w8 (w.heap.size + 2) 25 #[.int .i64 a.op, .int .i64 a.ct, .int .i64 a.n, .int .i64 a.m, .int .i64 a.va, .slice vA a.ks.length vcap]) := KD6.out.same (hC68.block _ KD6.out.lt (by rw [zy1]; omega))
  have KR8 : Hid (Blk w8 (w.heap.size + 1) 25 #[.int .i64 0, .int .i64 0, .int .i64 0, .int .i64 0, .int .i64 0, .slice none 0 0]) := KR6.out.same (hC68.block _ KR6.out.lt (by rw [zy1]; omega))
  have HO8 := jj (HO6.out.deeper (fun x cs G hk h => PR_mono' _ _ x cs G hk h) hC68 (fun b hb h => by rw [zy1] at h; have := (HO6.out.row b hb).1; omega) (fun b hb h => by rw [zy1] at h; exact (HFG.out b hb).1 h))
  have HO9 : Hid (Own (w8.setCell ⟨w.heap.size + 2, 1, none⟩ (.int .i64 nx)) (w.heap.size + 3) 25 6 PR a.ks (.slice vA a.ks.length vcap) F2) := HO8.out.set (fun w w' x cs G hk h => PR_mono' w w' x cs G hk h) _ (fun h => by have := (HO8.out.row _ h).1; omega) (fun h => (HFG.out _ h).2.1 rfl)
  have KR9 : Hid (Blk (w8.setCell ⟨w.heap.size + 2, 1, none⟩ (.int .i64 nx)) (w.heap.size + 1) 25 #[.int .i64 0, .int .i64 0, .int .i64 0, .int .i64 0, .int .i64 0, .slice none 0 0]) := KR8.out.same (zz7 _ _ _ _ (by show w.heap.size + 1 ≠ w.heap.size + 2; omega))
  have HR9 : Hid (Rd (w8.setCell ⟨w.heap.size + 2, 1, none⟩ (.int .i64 nx)) g (p + 1 + 1)) := hR8.keep fun b hb => zz7 _ _ _ _ (by show b ≠ w.heap.size + 2; omega)
  have HC9 : Hid (Chg [g] w (w8.setCell ⟨w.heap.size + 2, 1, none⟩ (.int .i64 nx))) := hC8.set_new (by omega)
  have e0 : w8.cell? ⟨w.heap.size + 2, 0, none⟩ = some (.int .i64 a.op) := (KD8.out.cell 0).trans (by simp)
  have f0 := KD8.out.frozen 0
  have e1 : w8.cell? ⟨w.heap.size + 2, 1, none⟩ = some (.int .i64 a.ct) := (KD8.out.cell 1).trans (by simp)
  have f1 := KD8.out.frozen 1
  have e2 : w8.cell? ⟨w.heap.size + 2, 2, none⟩ = some (.int .i64 a.n) := (KD8.out.cell 2).trans (by simp)
  have f2 := KD8.out.frozen 2
  have e3 : w8.cell? ⟨w.heap.size + 2, 3, none⟩ = some (.int .i64 a.m) := (KD8.out.cell 3).trans (by simp)
  have f3 := KD8.out.frozen 3
  have e4 : w8.cell? ⟨w.heap.size + 2, 4, none⟩ = some (.int .i64 a.va) := (KD8.out.cell 4).trans (by simp)
  have f4 := KD8.out.frozen 4
  have e5 : w8.cell? ⟨w.heap.size + 2, 5, none⟩ = some (.slice vA a.ks.length vcap) := (KD8.out.cell 5).trans (by simp)
  have f5 := KD8.out.frozen 5
  have elt := KD8.out.lt
  have r0 : w8.cell? ⟨w.heap.size + 1, 0, none⟩ = some (.int .i64 0) := (KR8.out.cell 0).trans (by simp)
  have s0 := KR8.out.frozen 0
  have r1 : w8.cell? ⟨w.heap.size + 1, 1, none⟩ = some (.int .i64 0) := (KR8.out.cell 1).trans (by simp)
  have s1 := KR8.out.frozen 1
  have r2 : w8.cell? ⟨w.heap.size + 1, 2, none⟩ = some (.int .i64 0) := (KR8.out.cell 2).trans (by simp)
  have s2 := KR8.out.frozen 2
  have r3 : w8.cell? ⟨w.heap.size + 1, 3, none⟩ = some (.int .i64 0) := (KR8.out.cell 3).trans (by simp)
  have s3 := KR8.out.frozen 3
  have r4 : w8.cell? ⟨w.heap.size + 1, 4, none⟩ = some (.int .i64 0) := (KR8.out.cell 4).trans (by simp)
  have s4 := KR8.out.frozen 4
  have r5 : w8.cell? ⟨w.heap.size + 1, 5, none⟩ = some (.slice none 0 0) := (KR8.out.cell 5).trans (by simp)
  have s5 := KR8.out.frozen 5
  have rlt := KR8.out.lt
  clear hLit hb7 hR7 hq8 hR8 hC68 hC8
  go_wp2
  clear e0 f0 e1 f1 e2 f2 e3 f3 e4 f4 e5 f5 elt
  clear r0 s0 r1 s1 r2 s2 r3 s3 r4 s4 r5 s5 rlt
  refine bodyPost_ret (zA1 rfl _ _ (w.heap.size + 1) 25 #[.int .i64 a.op, .int .i64 nx, .int .i64 a.n, .int .i64 a.m, .int .i64 a.va, .slice vA a.ks.length vcap] (0, 0) _ rfl (KR9.out.six _ _ _ _ _ _) Try.underlying25 rfl rfl) rfl ?_
  have hfr := HO9.out.under_any2
  have hne : ∀ b ∈ (if a.ks = [] then [] else rowOf (.slice vA a.ks.length vcap) ++ F2), b ≠ w.heap.size + 1 := fun b hb e => by
   by_cases hx : a.ks = []
   ·rw [if_pos hx] at hb; cases hb
   ·rw [if_neg hx] at hb
    rcases List.mem_append.1 hb with hb | hb
    ·have := (HO9.out.row b hb).1; omega
    ·exact (HFG.out b hb).2.2.1 e
  have hkp : Kept (if a.ks = [] then [] else rowOf (.slice vA a.ks.length vcap) ++ F2) (w8.setCell ⟨w.heap.size + 2, 1, none⟩ (.int .i64 nx)) (((((((w8.setCell ⟨w.heap.size + 2, 1, none⟩ (.int .i64 nx)).setCell ⟨w.heap.size + 1, 0, none⟩ (.int .i64 a.op)).setCell ⟨w.heap.size + 1, 1, none⟩ (.int .i64 nx)).setCell ⟨w.heap.size + 1, 2, none⟩ (.int .i64 a.n)).setCell ⟨w.heap.size + 1, 3, none⟩ (.int .i64 a.m)).setCell ⟨w.heap.size + 1, 4, none⟩ (.int .i64 a.va)).setCell ⟨w.heap.size + 1, 5, none⟩ (.slice vA a.ks.length vcap)) := zAM hne _ _ _ _ _ _
  refine ⟨⟨a.op, nx, a.n, a.m, a.va, a.ks⟩, [.int .i64 a.op, .int .i64 nx, .int .i64 a.n, .int .i64 a.m, .int .i64 a.va, .slice vA a.ks.length vcap], _, p + 1 + 1, rfl, (zA4 _ _ _).2 ⟨_, rfl, ArrP.mono HO9.out.arr hkp⟩, (fun b hb => ?_), (by rw [zA5, zA5]; exact Nat.le_succ _), zB2 HR9.out (by omega) _ _ _ _ _ _, by omega, zAL HC9.out (by omega) _ _ _ _ _ _⟩
  rw [zAN]
  refine ⟨hfr b hb, ?_⟩
  by_cases hx : a.ks = []
  ·rw [if_pos hx] at hb; cases hb
  ·rw [if_neg hx] at hb
   rcases List.mem_append.1 hb with hb | hb
   ·have := (HO9.out.row b hb).1; exact ⟨by omega, .inr (by omega)⟩
   ·exact ⟨(HFG.out b hb).1, .inl (HFG.out b hb).2.2.2⟩
 by_cases h3 : r = 3
 ·subst h3
  have e0 : w6.cell? ⟨w.heap.size + 2, 0, none⟩ = some (.int .i64 a.op) := (KD6.out.cell 0).trans (by simp)
  have f0 := KD6.out.frozen 0
  have e1 : w6.cell? ⟨w.heap.size + 2, 1, none⟩ = some (.int .i64 a.ct) := (KD6.out.cell 1).trans (by simp)
  have f1 := KD6.out.frozen 1
  have e2 : w6.cell? ⟨w.heap.size + 2, 2, none⟩ = some (.int .i64 a.n) := (KD6.out.cell 2).trans (by simp)
  have f2 := KD6.out.frozen 2
  have e3 : w6.cell? ⟨w.heap.size + 2, 3, none⟩ = some (.int .i64 a.m) := (KD6.out.cell 3).trans (by simp)
  have f3 := KD6.out.frozen 3
  have e4 : w6.cell? ⟨w.heap.size + 2, 4, none⟩ = some (.int .i64 a.va) := (KD6.out.cell 4).trans (by simp)
  have f4 := KD6.out.frozen 4
  have e5 : w6.cell? ⟨w.heap.size + 2, 5, none⟩ = some (.slice vA a.ks.length vcap) := (KD6.out.cell 5).trans (by simp)
  have f5 := KD6.out.frozen 5
  have elt := KD6.out.lt
  go_wp2_with (at_builtin; refine Halt.mk ?_)
  refine Halt.of (zA3 (P := Try.prog) rfl _ _ 23 rfl i0 _ 64 Try.underlying23 HI.out HZ0.out HZ1.out HZ2.out rfl (by decide) PR_len' PR_mono' (by rfl) HO6.out ⟨2, 0, 0, 0, 0, []⟩ 25 [.int .i64 2, .int .i64 0, .int .i64 0, .int .i64 0, .int .i64 0, .slice none 0 0] [] _ (by rfl) (by simp) (by simp [Value.oneCell']) ((zA4 _ _ _).2 ⟨_, rfl, Arr.nil⟩) (Under.nil _) (fun _ _ h => by cases h) (by unfold maxLen; omega) (by omega) hz6 ?_)
  intro g7 cp7 w9 hown9 hgr9 hat9
  clear e0 f0 e1 f1 e2 f2 e3 f3 e4 f4 e5 f5 elt
  rw [List.append_nil] at hown9
  have HO9' := jj hown9
  have hb69 : Below (w.heap.size + 3) w6 w9 := ((zy2 _ _).alloc hz6 _).grown hgr9 (by simp; omega) (fun x hx => (HO6.out.row x (zA2.2 hx)).1)
  have KD9 : Hid (Blk w9 (w.heap.size + 2) 25 #[.int .i64 a.op, .int .i64 a.ct, .int .i64 a.n, .int .i64 a.m, .int .i64 a.va, .slice vA a.ks.length vcap]) := KD6.out.same (hb69.block _ (by omega))
  have KR9' : Hid (Blk w9 (w.heap.size + 1) 25 #[.int .i64 0, .int .i64 0, .int .i64 0, .int .i64 0, .int .i64 0, .slice none 0 0]) := KR6.out.same (hb69.block _ (by omega))
  have HO9 : Hid (Own (w9.setCell ⟨w.heap.size + 2, 5, none⟩ (.slice (some ⟨g7, 0, none⟩) (a.ks.length + 1) cp7)) (w.heap.size + 3) 25 6 PR (a.ks ++ [⟨2, 0, 0, 0, 0, []⟩]) (.slice (some ⟨g7, 0, none⟩) (a.ks.length + 1) cp7) F2) := HO9'.out.set (fun w w' x cs G hk h => PR_mono' w w' x cs G hk h) _ (fun h => by have := (HO9'.out.row _ h).1; omega) (fun h => (HFG.out _ h).2.1 rfl)
  have KR9 : Hid (Blk (w9.setCell ⟨w.heap.size + 2, 5, none⟩ (.slice (some ⟨g7, 0, none⟩) (a.ks.length + 1) cp7)) (w.heap.size + 1) 25 #[.int .i64 0, .int .i64 0, .int .i64 0, .int .i64 0, .int .i64 0, .slice none 0 0]) := KR9'.out.same (zz7 _ _ _ _ (by show w.heap.size + 1 ≠ w.heap.size + 2; omega))
  have hC69 : Chg [g] w w9 := ⟨hb69.os.trans HC6.out.os, hb69.tape.trans HC6.out.tape, hb69.output.trans HC6.out.output, Nat.le_trans HC6.out.size hb69.size, fun b hb hn => (hb69.block b (by omega)).trans (HC6.out.block b hb hn)⟩
  have HC9 : Hid (Chg [g] w (w9.setCell ⟨w.heap.size + 2, 5, none⟩ (.slice (some ⟨g7, 0, none⟩) (a.ks.length + 1) cp7))) := hC69.set_new (by omega)
  have HR9 : Hid (Rd (w9.setCell ⟨w.heap.size + 2, 5, none⟩ (.slice (some ⟨g7, 0, none⟩) (a.ks.length + 1) cp7)) g (p + 1)) := (HR6.out.keep (w' := w9) (fun b hb => hb69.block b (by omega))).keep fun b hb => zz7 _ _ _ _ (by show b ≠ w.heap.size + 2; omega)
  have e0 : w9.cell? ⟨w.heap.size + 2, 0, none⟩ = some (.int .i64 a.op) := (KD9.out.cell 0).trans (by simp)
  have f0 := KD9.out.frozen 0
  have e1 : w9.cell? ⟨w.heap.size + 2, 1, none⟩ = some (.int .i64 a.ct) := (KD9.out.cell 1).trans (by simp)
  have f1 := KD9.out.frozen 1
  have e2 : w9.cell? ⟨w.heap.size + 2, 2, none⟩ = some (.int .i64 a.n) := (KD9.out.cell 2).trans (by simp)
  have f2 := KD9.out.frozen 2
  have e3 : w9.cell? ⟨w.heap.size + 2, 3, none⟩ = some (.int .i64 a.m) := (KD9.out.cell 3).trans (by simp)
  have f3 := KD9.out.frozen 3
  have e4 : w9.cell? ⟨w.heap.size + 2, 4, none⟩ = some (.int .i64 a.va) := (KD9.out.cell 4).trans (by simp)
  have f4 := KD9.out.frozen 4
  have e5 : w9.cell? ⟨w.heap.size + 2, 5, none⟩ = some (.slice vA a.ks.length vcap) := (KD9.out.cell 5).trans (by simp)
  have f5 := KD9.out.frozen 5
  have elt := KD9.out.lt
  have r0 : w9.cell? ⟨w.heap.size + 1, 0, none⟩ = some (.int .i64 0) := (KR9'.out.cell 0).trans (by simp)
  have s0 := KR9'.out.frozen 0
  have r1 : w9.cell? ⟨w.heap.size + 1, 1, none⟩ = some (.int .i64 0) := (KR9'.out.cell 1).trans (by simp)
  have s1 := KR9'.out.frozen 1
  have r2 : w9.cell? ⟨w.heap.size + 1, 2, none⟩ = some (.int .i64 0) := (KR9'.out.cell 2).trans (by simp)
  have s2 := KR9'.out.frozen 2
  have r3 : w9.cell? ⟨w.heap.size + 1, 3, none⟩ = some (.int .i64 0) := (KR9'.out.cell 3).trans (by simp)
  have s3 := KR9'.out.frozen 3
  have r4 : w9.cell? ⟨w.heap.size + 1, 4, none⟩ = some (.int .i64 0) := (KR9'.out.cell 4).trans (by simp)
  have s4 := KR9'.out.frozen 4
  have r5 : w9.cell? ⟨w.heap.size + 1, 5, none⟩ = some (.slice none 0 0) := (KR9'.out.cell 5).trans (by simp)
  have s5 := KR9'.out.frozen 5
  have rlt := KR9'.out.lt
  clear hown9 hgr9 hat9 hC69
  go_wp2
  clear e0 f0 e1 f1 e2 f2 e3 f3 e4 f4 e5 f5 elt
  clear r0 s0 r1 s1 r2 s2 r3 s3 r4 s4 r5 s5 rlt
  refine bodyPost_ret (zA1 rfl _ _ (w.heap.size + 1) 25 #[.int .i64 a.op, .int .i64 a.ct, .int .i64 a.n, .int .i64 a.m, .int .i64 a.va, .slice (some ⟨g7, 0, none⟩) (a.ks.length + 1) cp7] (0, 0) _ rfl (KR9.out.six _ _ _ _ _ _) Try.underlying25 rfl rfl) rfl ?_
  have hfr := HO9.out.under_any2
  have hne : ∀ b ∈ (if (a.ks ++ [⟨2, 0, 0, 0, 0, []⟩]) = [] then [] else rowOf (.slice (some ⟨g7, 0, none⟩) (a.ks.length + 1) cp7) ++ F2), b ≠ w.heap.size + 1 := fun b hb e => by
   by_cases hx : (a.ks ++ [⟨2, 0, 0, 0, 0, []⟩]) = []
   ·rw [if_pos hx] at hb; cases hb
   ·rw [if_neg hx] at hb
    rcases List.mem_append.1 hb with hb | hb
    ·have := (HO9.out.row b hb).1; omega
    ·exact (HFG.out b hb).2.2.1 e
  have hkp : Kept (if (a.ks ++ [⟨2, 0, 0, 0, 0, []⟩]) = [] then [] else rowOf (.slice (some ⟨g7, 0, none⟩) (a.ks.length + 1) cp7) ++ F2) (w9.setCell ⟨w.heap.size + 2, 5, none⟩ (.slice (some ⟨g7, 0, none⟩) (a.ks.length + 1) cp7)) (((((((w9.setCell ⟨w.heap.size + 2, 5, none⟩ (.slice (some ⟨g7, 0, none⟩) (a.ks.length + 1) cp7)).setCell ⟨w.heap.size + 1, 0, none⟩ (.int .i64 a.op)).setCell ⟨w.heap.size + 1, 1, none⟩ (.int .i64 a.ct)).setCell ⟨w.heap.size + 1, 2, none⟩ (.int .i64 a.n)).setCell ⟨w.heap.size + 1, 3, none⟩ (.int .i64 a.m)).setCell ⟨w.heap.size + 1, 4, none⟩ (.int .i64 a.va)).setCell ⟨w.heap.size + 1, 5, none⟩ (.slice (some ⟨g7, 0, none⟩) (a.ks.length + 1) cp7)) := zAM hne _ _ _ _ _ _
  refine ⟨⟨a.op, a.ct, a.n, a.m, a.va, a.ks ++ [⟨2, 0, 0, 0, 0, []⟩]⟩, [.int .i64 a.op, .int .i64 a.ct, .int .i64 a.n, .int .i64 a.m, .int .i64 a.va, .slice (some ⟨g7, 0, none⟩) (a.ks.length + 1) cp7], _, p + 1, rfl, (zA4 _ _ _).2 ⟨_, rfl, ArrP.mono HO9.out.arr hkp⟩, (fun b hb => ?_), (by rw [zA5, zA5, P.sizes_eq, P.sizes_eq, P.subs_snoc, List.length_append]; simp [P.size, P.sizes]; omega), zB2 HR9.out (by omega) _ _ _ _ _ _, by omega, zAL HC9.out (by omega) _ _ _ _ _ _⟩
  rw [zAN]
  refine ⟨hfr b hb, ?_⟩
  by_cases hx : (a.ks ++ [⟨2, 0, 0, 0, 0, []⟩]) = []
  ·rw [if_pos hx] at hb; cases hb
  ·rw [if_neg hx] at hb
   rcases List.mem_append.1 hb with hb | hb
   ·have := (HO9.out.row b hb).1; exact ⟨by omega, .inr (by omega)⟩
   ·exact ⟨(HFG.out b hb).1, .inl (HFG.out b hb).2.2.2⟩
 by_cases h4 : r = 4
 ·subst h4
  by_cases hk : a.ks = []
  ·have hl0 : a.ks.length = 0 := by rw [hk]; rfl
   have t5 : decide (0 < a.ks.length) = false := by rw [hl0]; rfl
   clear hk hl0
   have e0 : w6.cell? ⟨w.heap.size + 2, 0, none⟩ = some (.int .i64 a.op) := (KD6.out.cell 0).trans (by simp)
   have f0 := KD6.out.frozen 0
   have e1 : w6.cell? ⟨w.heap.size + 2, 1, none⟩ = some (.int .i64 a.ct) := (KD6.out.cell 1).trans (by simp)
   have f1 := KD6.out.frozen 1
   have e2 : w6.cell? ⟨w.heap.size + 2, 2, none⟩ = some (.int .i64 a.n) := (KD6.out.cell 2).trans (by simp)
   have f2 := KD6.out.frozen 2
   have e3 : w6.cell? ⟨w.heap.size + 2, 3, none⟩ = some (.int .i64 a.m) := (KD6.out.cell 3).trans (by simp)
   have f3 := KD6.out.frozen 3
   have e4 : w6.cell? ⟨w.heap.size + 2, 4, none⟩ = some (.int .i64 a.va) := (KD6.out.cell 4).trans (by simp)
   have f4 := KD6.out.frozen 4
   have e5 : w6.cell? ⟨w.heap.size + 2, 5, none⟩ = some (.slice vA a.ks.length vcap) := (KD6.out.cell 5).trans (by simp)
   have f5 := KD6.out.frozen 5
   have elt := KD6.out.lt
   have r0 : w6.cell? ⟨w.heap.size + 1, 0, none⟩ = some (.int .i64 0) := (KR6.out.cell 0).trans (by simp)
   have s0 := KR6.out.frozen 0
   have r1 : w6.cell? ⟨w.heap.size + 1, 1, none⟩ = some (.int .i64 0) := (KR6.out.cell 1).trans (by simp)
   have s1 := KR6.out.frozen 1
   have r2 : w6.cell? ⟨w.heap.size + 1, 2, none⟩ = some (.int .i64 0) := (KR6.out.cell 2).trans (by simp)
   have s2 := KR6.out.frozen 2
   have r3 : w6.cell? ⟨w.heap.size + 1, 3, none⟩ = some (.int .i64 0) := (KR6.out.cell 3).trans (by simp)
   have s3 := KR6.out.frozen 3
   have r4 : w6.cell? ⟨w.heap.size + 1, 4, none⟩ = some (.int .i64 0) := (KR6.out.cell 4).trans (by simp)
   have s4 := KR6.out.frozen 4
   have r5 : w6.cell? ⟨w.heap.size + 1, 5, none⟩ = some (.slice none 0 0) := (KR6.out.cell 5).trans (by simp)
   have s5 := KR6.out.frozen 5
   have rlt := KR6.out.lt
   go_wp2
   clear e0 f0 e1 f1 e2 f2 e3 f3 e4 f4 e5 f5 elt
   clear r0 s0 r1 s1 r2 s2 r3 s3 r4 s4 r5 s5 rlt
   refine bodyPost_ret (zA1 rfl _ _ (w.heap.size + 1) 25 #[.int .i64 a.op, .int .i64 a.ct, .int .i64 a.n, .int .i64 a.m, .int .i64 a.va, .slice vA a.ks.length vcap] (0, 0) _ rfl (KR6.out.six _ _ _ _ _ _) Try.underlying25 rfl rfl) rfl ?_
   have hfr := HO6.out.under_any2
   have hne : ∀ b ∈ (if a.ks = [] then [] else rowOf (.slice vA a.ks.length vcap) ++ F2), b ≠ w.heap.size + 1 := fun b hb e => by
    by_cases hx : a.ks = []
    ·rw [if_pos hx] at hb; cases hb
    ·rw [if_neg hx] at hb
     rcases List.mem_append.1 hb with hb | hb
     ·have := (HO6.out.row b hb).1; omega
     ·exact (HFG.out b hb).2.2.1 e
   have hkp : Kept (if a.ks = [] then [] else rowOf (.slice vA a.ks.length vcap) ++ F2) w6 ((((((w6.setCell ⟨w.heap.size + 1, 0, none⟩ (.int .i64 a.op)).setCell ⟨w.heap.size + 1, 1, none⟩ (.int .i64 a.ct)).setCell ⟨w.heap.size + 1, 2, none⟩ (.int .i64 a.n)).setCell ⟨w.heap.size + 1, 3, none⟩ (.int .i64 a.m)).setCell ⟨w.heap.size + 1, 4, none⟩ (.int .i64 a.va)).setCell ⟨w.heap.size + 1, 5, none⟩ (.slice vA a.ks.length vcap)) := zAM hne _ _ _ _ _ _
   refine ⟨⟨a.op, a.ct, a.n, a.m, a.va, a.ks⟩, [.int .i64 a.op, .int .i64 a.ct, .int .i64 a.n, .int .i64 a.m, .int .i64 a.va, .slice vA a.ks.length vcap], _, p + 1, rfl, (zA4 _ _ _).2 ⟨_, rfl, ArrP.mono HO6.out.arr hkp⟩, (fun b hb => ?_), (by rw [zA5, zA5]; exact Nat.le_succ _), zB2 HR6.out (by omega) _ _ _ _ _ _, by omega, zAL HC6.out (by omega) _ _ _ _ _ _⟩
   rw [zAN]
   refine ⟨hfr b hb, ?_⟩
   by_cases hx : a.ks = []
   ·rw [if_pos hx] at hb; cases hb
   ·rw [if_neg hx] at hb
    rcases List.mem_append.1 hb with hb | hb
    ·have := (HO6.out.row b hb).1; exact ⟨by omega, .inr (by omega)⟩
    ·exact ⟨(HFG.out b hb).1, .inl (HFG.out b hb).2.2.2⟩
  ·obtain ⟨k0, ks0, hk0⟩ := List.exists_cons_of_ne_nil hk
   have hpos : 0 < a.ks.length := by rw [hk0]; simp
   have hHd := HO6.out
   rw [hk0] at hHd
   obtain ⟨g4, C4, rfl, hg4, hC4, hs4⟩ := hHd.cell0
   obtain ⟨F4, hF4, hO4⟩ := hHd.head [.int .i64 2, .int .i64 0, .int .i64 0, .int .i64 0, .int .i64 0, .slice none 0 0] rfl ⟨2, 0, 0, 0, 0, []⟩ (fun w => (zA4 _ _ _).2 ⟨_, rfl, Arr.nil⟩)
   have hsz4 : nodesP ⟨a.op, a.ct, a.n, a.m, a.va, ⟨2, 0, 0, 0, 0, []⟩ :: ks0⟩ ≤ nodesP a + 1 := by
    rw [zA5, zA5, hk0, P.sizes_eq, P.sizes_eq]
    simp [P.subs, P.size, P.sizes]
    omega
   have HSZ4 := jj hsz4
   have HO4 : Hid (Own (putCells w6 g4 0 [.int .i64 2, .int .i64 0, .int .i64 0, .int .i64 0, .int .i64 0, .slice none 0 0]) (w.heap.size + 3) 25 6 PR (⟨2, 0, 0, 0, 0, []⟩ :: ks0) (.slice (some ⟨g4, 0, none⟩) a.ks.length vcap) F4) := by
    have e : a.ks.length = (k0 :: ks0).length := by rw [hk0]
    rw [e]; exact hO4
   have HF4 : Hid (∀ b ∈ F4, b ≠ g ∧ b ≠ w.heap.size + 2 ∧ b ≠ w.heap.size + 1 ∧ b ∈ G) := fun b hb => HFG.out b (hF4 b hb)
   have hgr4 := (putCells_grown g4 [.int .i64 2, .int .i64 0, .int .i64 0, .int .i64 0, .int .i64 0, .slice none 0 0] w6 0)
   have KR9 : Hid (Blk (putCells w6 g4 0 [.int .i64 2, .int .i64 0, .int .i64 0, .int .i64 0, .int .i64 0, .slice none 0 0]) (w.heap.size + 1) 25 #[.int .i64 0, .int .i64 0, .int .i64 0, .int .i64 0, .int .i64 0, .slice none 0 0]) := KR6.out.same (hgr4.1.block _ KR6.out.lt (fun e => by cases e; omega))
   have HC9 : Hid (Chg [g] w (putCells w6 g4 0 [.int .i64 2, .int .i64 0, .int .i64 0, .int .i64 0, .int .i64 0, .slice none 0 0])) := ((((((HC6.out.set_new (by omega)).set_new (by omega)).set_new (by omega)).set_new (by omega)).set_new (by omega)).set_new (by omega))
   have HR9 : Hid (Rd (putCells w6 g4 0 [.int .i64 2, .int .i64 0, .int .i64 0, .int .i64 0, .int .i64 0, .slice none 0 0]) g (p + 1)) := HR6.out.keep fun b hb => hgr4.1.block b (by omega) (fun e => by cases e; omega)
   have hx0 : ∃ u, w6.cell? ⟨g4, 0, none⟩ = some u := ⟨C4[0], by rw [hC4.cell, Array.getElem?_eq_getElem (by omega)]⟩
   have hx1 : ∃ u, w6.cell? ⟨g4, 1, none⟩ = some u := ⟨C4[1], by rw [hC4.cell, Array.getElem?_eq_getElem (by omega)]⟩
   have hx2 : ∃ u, w6.cell? ⟨g4, 2, none⟩ = some u := ⟨C4[2], by rw [hC4.cell, Array.getElem?_eq_getElem (by omega)]⟩
   have hx3 : ∃ u, w6.cell? ⟨g4, 3, none⟩ = some u := ⟨C4[3], by rw [hC4.cell, Array.getElem?_eq_getElem (by omega)]⟩
   have hx4 : ∃ u, w6.cell? ⟨g4, 4, none⟩ = some u := ⟨C4[4], by rw [hC4.cell, Array.getElem?_eq_getElem (by omega)]⟩
   have hx5 : ∃ u, w6.cell? ⟨g4, 5, none⟩ = some u := ⟨C4[5], by rw [hC4.cell, Array.getElem?_eq_getElem (by omega)]⟩
   obtain ⟨u0, x0⟩ := hx0
   obtain ⟨u1, x1⟩ := hx1
   obtain ⟨u2, x2⟩ := hx2
   obtain ⟨u3, x3⟩ := hx3
   obtain ⟨u4, x4⟩ := hx4
   obtain ⟨u5, x5⟩ := hx5
   have z0 := hC4.frozen 0
   have z1 := hC4.frozen 1
   have z2 := hC4.frozen 2
   have z3 := hC4.frozen 3
   have z4 := hC4.frozen 4
   have z5 := hC4.frozen 5
   have xlt := hC4.lt
   have hd1 : w.heap.size + 2 ≠ g4 := by omega
   have hd2 : w.heap.size + 1 ≠ g4 := by omega
   have hd3 : ¬ g4 = w.heap.size + 2 := by omega
   have hd4 : ¬ g4 = w.heap.size + 1 := by omega
   have e0 : w6.cell? ⟨w.heap.size + 2, 0, none⟩ = some (.int .i64 a.op) := (KD6.out.cell 0).trans (by simp)
   have f0 := KD6.out.frozen 0
   have e1 : w6.cell? ⟨w.heap.size + 2, 1, none⟩ = some (.int .i64 a.ct) := (KD6.out.cell 1).trans (by simp)
   have f1 := KD6.out.frozen 1
   have e2 : w6.cell? ⟨w.heap.size + 2, 2, none⟩ = some (.int .i64 a.n) := (KD6.out.cell 2).trans (by simp)
   have f2 := KD6.out.frozen 2
   have e3 : w6.cell? ⟨w.heap.size + 2, 3, none⟩ = some (.int .i64 a.m) := (KD6.out.cell 3).trans (by simp)
   have f3 := KD6.out.frozen 3
   have e4 : w6.cell? ⟨w.heap.size + 2, 4, none⟩ = some (.int .i64 a.va) := (KD6.out.cell 4).trans (by simp)
   have f4 := KD6.out.frozen 4
   have e5 : w6.cell? ⟨w.heap.size + 2, 5, none⟩ = some (.slice (some ⟨g4, 0, none⟩) a.ks.length vcap) := (KD6.out.cell 5).trans (by simp)
   have f5 := KD6.out.frozen 5
   have elt := KD6.out.lt
   have r0 : w6.cell? ⟨w.heap.size + 1, 0, none⟩ = some (.int .i64 0) := (KR6.out.cell 0).trans (by simp)
   have s0 := KR6.out.frozen 0
   have r1 : w6.cell? ⟨w.heap.size + 1, 1, none⟩ = some (.int .i64 0) := (KR6.out.cell 1).trans (by simp)
   have s1 := KR6.out.frozen 1
   have r2 : w6.cell? ⟨w.heap.size + 1, 2, none⟩ = some (.int .i64 0) := (KR6.out.cell 2).trans (by simp)
   have s2 := KR6.out.frozen 2
   have r3 : w6.cell? ⟨w.heap.size + 1, 3, none⟩ = some (.int .i64 0) := (KR6.out.cell 3).trans (by simp)
   have s3 := KR6.out.frozen 3
   have r4 : w6.cell? ⟨w.heap.size + 1, 4, none⟩ = some (.int .i64 0) := (KR6.out.cell 4).trans (by simp)
   have s4 := KR6.out.frozen 4
   have r5 : w6.cell? ⟨w.heap.size + 1, 5, none⟩ = some (.slice none 0 0) := (KR6.out.cell 5).trans (by simp)
   have s5 := KR6.out.frozen 5
   have rlt := KR6.out.lt
   clear hHd hO4 hF4 hC4 hs4 hk hk0 hgr4 hsz4
   have hq0 : (0 : Int) < (a.ks.length : Int) := by omega
   go_wp2
   clear e0 f0 e1 f1 e2 f2 e3 f3 e4 f4 e5 f5 elt
   clear r0 s0 r1 s1 r2 s2 r3 s3 r4 s4 r5 s5 rlt
   clear x0 x1 x2 x3 x4 x5 z0 z1 z2 z3 z4 z5 xlt
   refine bodyPost_ret (zA1 rfl _ _ (w.heap.size + 1) 25 #[.int .i64 a.op, .int .i64 a.ct, .int .i64 a.n, .int .i64 a.m, .int .i64 a.va, .slice (some ⟨g4, 0, none⟩) a.ks.length vcap] (0, 0) _ rfl (KR9.out.six _ _ _ _ _ _) Try.underlying25 rfl rfl) rfl ?_
   have hfr := HO4.out.under_any2
   have hne : ∀ b ∈ (if (⟨2, 0, 0, 0, 0, []⟩ :: ks0) = [] then [] else rowOf (.slice (some ⟨g4, 0, none⟩) a.ks.length vcap) ++ F4), b ≠ w.heap.size + 1 := fun b hb e => by
    by_cases hx : (⟨2, 0, 0, 0, 0, []⟩ :: ks0) = []
    ·rw [if_pos hx] at hb; cases hb
    ·rw [if_neg hx] at hb
     rcases List.mem_append.1 hb with hb | hb
     ·have := (HO4.out.row b hb).1; omega
     ·exact (HF4.out b hb).2.2.1 e
   have hkp : Kept (if (⟨2, 0, 0, 0, 0, []⟩ :: ks0) = [] then [] else rowOf (.slice (some ⟨g4, 0, none⟩) a.ks.length vcap) ++ F4) (putCells w6 g4 0 [.int .i64 2, .int .i64 0, .int .i64 0, .int .i64 0, .int .i64 0, .slice none 0 0]) (((((((putCells w6 g4 0 [.int .i64 2, .int .i64 0, .int .i64 0, .int .i64 0, .int .i64 0, .slice none 0 0]).setCell ⟨w.heap.size + 1, 0, none⟩ (.int .i64 a.op)).setCell ⟨w.heap.size + 1, 1, none⟩ (.int .i64 a.ct)).setCell ⟨w.heap.size + 1, 2, none⟩ (.int .i64 a.n)).setCell ⟨w.heap.size + 1, 3, none⟩ (.int .i64 a.m)).setCell ⟨w.heap.size + 1, 4, none⟩ (.int .i64 a.va)).setCell ⟨w.heap.size + 1, 5, none⟩ (.slice (some ⟨g4, 0, none⟩) a.ks.length vcap)) := zAM hne _ _ _ _ _ _
   refine ⟨⟨a.op, a.ct, a.n, a.m, a.va, ⟨2, 0, 0, 0, 0, []⟩ :: ks0⟩, [.int .i64 a.op, .int .i64 a.ct, .int .i64 a.n, .int .i64 a.m, .int .i64 a.va, .slice (some ⟨g4, 0, none⟩) a.ks.length vcap], _, p + 1, rfl, (zA4 _ _ _).2 ⟨_, rfl, ArrP.mono HO4.out.arr hkp⟩, (fun b hb => ?_), HSZ4.out, zB2 HR9.out (by omega) _ _ _ _ _ _, by omega, zAL HC9.out (by omega) _ _ _ _ _ _⟩
   rw [zAN]
   refine ⟨hfr b hb, ?_⟩
   by_cases hx : (⟨2, 0, 0, 0, 0, []⟩ :: ks0) = []
   ·rw [if_pos hx] at hb; cases hb
   ·rw [if_neg hx] at hb
    rcases List.mem_append.1 hb with hb | hb
    ·have := (HO4.out.row b hb).1; exact ⟨by omega, .inr (by omega)⟩
    ·exact ⟨(HF4.out b hb).1, .inl (HF4.out b hb).2.2.2⟩
 by_cases h5 : r = 5
 ·subst h5
  go_wp2_with fail
  have hLit : LitN (w6.alloc (.cells ([10, -1, 5].map (Value.int .i64)).toArray 3)) w6.heap.size [10, -1, 5] := LitN.new _ _ (by decide)
  have hb7 : Below w6.heap.size w6 (w6.alloc (.cells ([10, -1, 5].map (Value.int .i64)).toArray 3)) := (zy2 _ _).alloc (zz8 _) _
  have hR7 : Rd (w6.alloc (.cells ([10, -1, 5].map (Value.int .i64)).toArray 3)) g (p + 1) := HR6.out.below hb7
  have hLit2 := hLit
  simp only [List.map_cons, List.map_nil] at hLit2
  obtain ⟨w7, hw7⟩ : ∃ X, X = (w6.alloc (.cells ([10, -1, 5].map (Value.int .i64)).toArray 3)) := ⟨_, rfl⟩
  have hw7' := hw7
  simp only [List.map_cons, List.map_nil] at hw7'
  rw [← hw7] at hLit hb7 hR7
  first | rw [← hw7] | rw [← hw7']
  clear hw7 hw7' hLit2
  have hg6 : g < w6.heap.size := HR6.out.lt
  refine (num_any [10, -1, 5] (by decide) (by decide) (p + 1) g w7 hR7 (by omega) _ _ hLit.2 (fun x hx => by rw [List.mem_singleton.1 hx]; exact hLit.1) (fun e => by rw [zy1] at e; omega)).mono ?_
  rintro e w8 ⟨nx, -, rfl, hR8, hq8⟩
  have hC68 : Chg [g] w6 w8 := (Chg.of_below hb7).trans hq8
  have hC8 : Chg [g] w w8 := HC6.out.trans hC68
  have KD8 : Hid (Blk w8 (w.heap.size + 2) 25 #[.int .i64 a.op, .int .i64 a.ct, .int .i64 a.n, .int .i64 a.m, .int .i64 a.va, .slice vA a.ks.length vcap]) := KD6.out.same (hC68.block _ KD6.out.lt (by rw [zy1]; omega))
  have KR8 : Hid (Blk w8 (w.heap.size + 1) 25 #[.int .i64 0, .int .i64 0, .int .i64 0, .int .i64 0, .int .i64 0, .slice none 0 0]) := KR6.out.same (hC68.block _ KR6.out.lt (by rw [zy1]; omega))
  have HO8 := jj (HO6.out.deeper (fun x cs G hk h => PR_mono' _ _ x cs G hk h) hC68 (fun b hb h => by rw [zy1] at h; have := (HO6.out.row b hb).1; omega) (fun b hb h => by rw [zy1] at h; exact (HFG.out b hb).1 h))
  have HO9 : Hid (Own (w8.setCell ⟨w.heap.size + 2, 2, none⟩ (.int .i64 nx)) (w.heap.size + 3) 25 6 PR a.ks (.slice vA a.ks.length vcap) F2) := HO8.out.set (fun w w' x cs G hk h => PR_mono' w w' x cs G hk h) _ (fun h => by have := (HO8.out.row _ h).1; omega) (fun h => (HFG.out _ h).2.1 rfl)
  have KR9 : Hid (Blk (w8.setCell ⟨w.heap.size + 2, 2, none⟩ (.int .i64 nx)) (w.heap.size + 1) 25 #[.int .i64 0, .int .i64 0, .int .i64 0, .int .i64 0, .int .i64 0, .slice none 0 0]) := KR8.out.same (zz7 _ _ _ _ (by show w.heap.size + 1 ≠ w.heap.size + 2; omega))
  have HR9 : Hid (Rd (w8.setCell ⟨w.heap.size + 2, 2, none⟩ (.int .i64 nx)) g (p + 1 + 1)) := hR8.keep fun b hb => zz7 _ _ _ _ (by show b ≠ w.heap.size + 2; omega)
  have HC9 : Hid (Chg [g] w (w8.setCell ⟨w.heap.size + 2, 2, none⟩ (.int .i64 nx))) := hC8.set_new (by omega)
  have e0 : w8.cell? ⟨w.heap.size + 2, 0, none⟩ = some (.int .i64 a.op) := (KD8.out.cell 0).trans (by simp)
  have f0 := KD8.out.frozen 0
  have e1 : w8.cell? ⟨w.heap.size + 2, 1, none⟩ = some (.int .i64 a.ct) := (KD8.out.cell 1).trans (by simp)
  have f1 := KD8.out.frozen 1
  have e2 : w8.cell? ⟨w.heap.size + 2, 2, none⟩ = some (.int .i64 a.n) := (KD8.out.cell 2).trans (by simp)
  have f2 := KD8.out.frozen 2
  have e3 : w8.cell? ⟨w.heap.size + 2, 3, none⟩ = some (.int .i64 a.m) := (KD8.out.cell 3).trans (by simp)
  have f3 := KD8.out.frozen 3
  have e4 : w8.cell? ⟨w.heap.size + 2, 4, none⟩ = some (.int .i64 a.va) := (KD8.out.cell 4).trans (by simp)
  have f4 := KD8.out.frozen 4
  have e5 : w8.cell? ⟨w.heap.size + 2, 5, none⟩ = some (.slice vA a.ks.length vcap) := (KD8.out.cell 5).trans (by simp)
  have f5 := KD8.out.frozen 5
  have elt := KD8.out.lt
  have r0 : w8.cell? ⟨w.heap.size + 1, 0, none⟩ = some (.int .i64 0) := (KR8.out.cell 0).trans (by simp)
  have s0 := KR8.out.frozen 0
  have r1 : w8.cell? ⟨w.heap.size + 1, 1, none⟩ = some (.int .i64 0) := (KR8.out.cell 1).trans (by simp)
  have s1 := KR8.out.frozen 1
  have r2 : w8.cell? ⟨w.heap.size + 1, 2, none⟩ = some (.int .i64 0) := (KR8.out.cell 2).trans (by simp)
  have s2 := KR8.out.frozen 2
  have r3 : w8.cell? ⟨w.heap.size + 1, 3, none⟩ = some (.int .i64 0) := (KR8.out.cell 3).trans (by simp)
  have s3 := KR8.out.frozen 3
  have r4 : w8.cell? ⟨w.heap.size + 1, 4, none⟩ = some (.int .i64 0) := (KR8.out.cell 4).trans (by simp)
  have s4 := KR8.out.frozen 4
  have r5 : w8.cell? ⟨w.heap.size + 1, 5, none⟩ = some (.slice none 0 0) := (KR8.out.cell 5).trans (by simp)
  have s5 := KR8.out.frozen 5
  have rlt := KR8.out.lt
  clear hLit hb7 hR7 hq8 hR8 hC68 hC8
  go_wp2
  clear e0 f0 e1 f1 e2 f2 e3 f3 e4 f4 e5 f5 elt
  clear r0 s0 r1 s1 r2 s2 r3 s3 r4 s4 r5 s5 rlt
  refine bodyPost_ret (zA1 rfl _ _ (w.heap.size + 1) 25 #[.int .i64 a.op, .int .i64 a.ct, .int .i64 nx, .int .i64 a.m, .int .i64 a.va, .slice vA a.ks.length vcap] (0, 0) _ rfl (KR9.out.six _ _ _ _ _ _) Try.underlying25 rfl rfl) rfl ?_
  have hfr := HO9.out.under_any2
  have hne : ∀ b ∈ (if a.ks = [] then [] else rowOf (.slice vA a.ks.length vcap) ++ F2), b ≠ w.heap.size + 1 := fun b hb e => by
   by_cases hx : a.ks = []
   ·rw [if_pos hx] at hb; cases hb
   ·rw [if_neg hx] at hb
    rcases List.mem_append.1 hb with hb | hb
    ·have := (HO9.out.row b hb).1; omega
    ·exact (HFG.out b hb).2.2.1 e
  have hkp : Kept (if a.ks = [] then [] else rowOf (.slice vA a.ks.length vcap) ++ F2) (w8.setCell ⟨w.heap.size + 2, 2, none⟩ (.int .i64 nx)) (((((((w8.setCell ⟨w.heap.size + 2, 2, none⟩ (.int .i64 nx)).setCell ⟨w.heap.size + 1, 0, none⟩ (.int .i64 a.op)).setCell ⟨w.heap.size + 1, 1, none⟩ (.int .i64 a.ct)).setCell ⟨w.heap.size + 1, 2, none⟩ (.int .i64 nx)).setCell ⟨w.heap.size + 1, 3, none⟩ (.int .i64 a.m)).setCell ⟨w.heap.size + 1, 4, none⟩ (.int .i64 a.va)).setCell ⟨w.heap.size + 1, 5, none⟩ (.slice vA a.ks.length vcap)) := zAM hne _ _ _ _ _ _
  refine ⟨⟨a.op, a.ct, nx, a.m, a.va, a.ks⟩, [.int .i64 a.op, .int .i64 a.ct, .int .i64 nx, .int .i64 a.m, .int .i64 a.va, .slice vA a.ks.length vcap], _, p + 1 + 1, rfl, (zA4 _ _ _).2 ⟨_, rfl, ArrP.mono HO9.out.arr hkp⟩, (fun b hb => ?_), (by rw [zA5, zA5]; exact Nat.le_succ _), zB2 HR9.out (by omega) _ _ _ _ _ _, by omega, zAL HC9.out (by omega) _ _ _ _ _ _⟩
  rw [zAN]
  refine ⟨hfr b hb, ?_⟩
  by_cases hx : a.ks = []
  ·rw [if_pos hx] at hb; cases hb
  ·rw [if_neg hx] at hb
   rcases List.mem_append.1 hb with hb | hb
   ·have := (HO9.out.row b hb).1; exact ⟨by omega, .inr (by omega)⟩
   ·exact ⟨(HFG.out b hb).1, .inl (HFG.out b hb).2.2.2⟩
 have q0 : ((r : Int) == 0) = false := by rw [beq_eq_false_iff_ne]; omega
 have q1 : ((r : Int) == 1) = false := by rw [beq_eq_false_iff_ne]; omega
 have q2 : ((r : Int) == 2) = false := by rw [beq_eq_false_iff_ne]; omega
 have q3 : ((r : Int) == 3) = false := by rw [beq_eq_false_iff_ne]; omega
 have q4 : ((r : Int) == 4) = false := by rw [beq_eq_false_iff_ne]; omega
 have q5 : ((r : Int) == 5) = false := by rw [beq_eq_false_iff_ne]; omega
 have e0 : w6.cell? ⟨w.heap.size + 2, 0, none⟩ = some (.int .i64 a.op) := (KD6.out.cell 0).trans (by simp)
 have f0 := KD6.out.frozen 0
 have e1 : w6.cell? ⟨w.heap.size + 2, 1, none⟩ = some (.int .i64 a.ct) := (KD6.out.cell 1).trans (by simp)
 have f1 := KD6.out.frozen 1
 have e2 : w6.cell? ⟨w.heap.size + 2, 2, none⟩ = some (.int .i64 a.n) := (KD6.out.cell 2).trans (by simp)
 have f2 := KD6.out.frozen 2
 have e3 : w6.cell? ⟨w.heap.size + 2, 3, none⟩ = some (.int .i64 a.m) := (KD6.out.cell 3).trans (by simp)
 have f3 := KD6.out.frozen 3
 have e4 : w6.cell? ⟨w.heap.size + 2, 4, none⟩ = some (.int .i64 a.va) := (KD6.out.cell 4).trans (by simp)
 have f4 := KD6.out.frozen 4
 have e5 : w6.cell? ⟨w.heap.size + 2, 5, none⟩ = some (.slice vA a.ks.length vcap) := (KD6.out.cell 5).trans (by simp)
 have f5 := KD6.out.frozen 5
 have elt := KD6.out.lt
 have r0 : w6.cell? ⟨w.heap.size + 1, 0, none⟩ = some (.int .i64 0) := (KR6.out.cell 0).trans (by simp)
 have s0 := KR6.out.frozen 0
 have r1 : w6.cell? ⟨w.heap.size + 1, 1, none⟩ = some (.int .i64 0) := (KR6.out.cell 1).trans (by simp)
 have s1 := KR6.out.frozen 1
 have r2 : w6.cell? ⟨w.heap.size + 1, 2, none⟩ = some (.int .i64 0) := (KR6.out.cell 2).trans (by simp)
 have s2 := KR6.out.frozen 2
 have r3 : w6.cell? ⟨w.heap.size + 1, 3, none⟩ = some (.int .i64 0) := (KR6.out.cell 3).trans (by simp)
 have s3 := KR6.out.frozen 3
 have r4 : w6.cell? ⟨w.heap.size + 1, 4, none⟩ = some (.int .i64 0) := (KR6.out.cell 4).trans (by simp)
 have s4 := KR6.out.frozen 4
 have r5 : w6.cell? ⟨w.heap.size + 1, 5, none⟩ = some (.slice none 0 0) := (KR6.out.cell 5).trans (by simp)
 have s5 := KR6.out.frozen 5
 have rlt := KR6.out.lt
 go_wp2
 clear e0 f0 e1 f1 e2 f2 e3 f3 e4 f4 e5 f5 elt
 clear r0 s0 r1 s1 r2 s2 r3 s3 r4 s4 r5 s5 rlt
 refine bodyPost_ret (zA1 rfl _ _ (w.heap.size + 1) 25 #[.int .i64 a.op, .int .i64 a.ct, .int .i64 a.n, .int .i64 a.m, .int .i64 a.va, .slice vA a.ks.length vcap] (0, 0) _ rfl (KR6.out.six _ _ _ _ _ _) Try.underlying25 rfl rfl) rfl ?_
 have hfr := HO6.out.under_any2
 have hne : ∀ b ∈ (if a.ks = [] then [] else rowOf (.slice vA a.ks.length vcap) ++ F2), b ≠ w.heap.size + 1 := fun b hb e => by
  by_cases hx : a.ks = []
  ·rw [if_pos hx] at hb; cases hb
  ·rw [if_neg hx] at hb
   rcases List.mem_append.1 hb with hb | hb
   ·have := (HO6.out.row b hb).1; omega
   ·exact (HFG.out b hb).2.2.1 e
 have hkp : Kept (if a.ks = [] then [] else rowOf (.slice vA a.ks.length vcap) ++ F2) w6 ((((((w6.setCell ⟨w.heap.size + 1, 0, none⟩ (.int .i64 a.op)).setCell ⟨w.heap.size + 1, 1, none⟩ (.int .i64 a.ct)).setCell ⟨w.heap.size + 1, 2, none⟩ (.int .i64 a.n)).setCell ⟨w.heap.size + 1, 3, none⟩ (.int .i64 a.m)).setCell ⟨w.heap.size + 1, 4, none⟩ (.int .i64 a.va)).setCell ⟨w.heap.size + 1, 5, none⟩ (.slice vA a.ks.length vcap)) := zAM hne _ _ _ _ _ _
 refine ⟨⟨a.op, a.ct, a.n, a.m, a.va, a.ks⟩, [.int .i64 a.op, .int .i64 a.ct, .int .i64 a.n, .int .i64 a.m, .int .i64 a.va, .slice vA a.ks.length vcap], _, p + 1, rfl, (zA4 _ _ _).2 ⟨_, rfl, ArrP.mono HO6.out.arr hkp⟩, (fun b hb => ?_), (by rw [zA5, zA5]; exact Nat.le_succ _), zB2 HR6.out (by omega) _ _ _ _ _ _, by omega, zAL HC6.out (by omega) _ _ _ _ _ _⟩
 rw [zAN]
 refine ⟨hfr b hb, ?_⟩
 by_cases hx : a.ks = []
 ·rw [if_pos hx] at hb; cases hb
 ·rw [if_neg hx] at hb
  rcases List.mem_append.1 hb with hb | hb
  ·have := (HO6.out.row b hb).1; exact ⟨by omega, .inr (by omega)⟩
  ·exact ⟨(HFG.out b hb).1, .inl (HFG.out b hb).2.2.2⟩
def DrewWTPF (w : World) (e : Ending) (w' : World) : Prop := ∃ (xs : List Dt) (v : Value) (F : List Nat) (t : Ty) (a : P) (cs : List Value) (G : List Nat), e = .returned (.tuple #[v, .agg #[.int .i64 t.d, .int .i64 t.i], .agg cs.toArray]) ∧ Below w.heap.size w w' ∧ Arr w' (DtR w') xs v F ∧ Fresh w w' F ∧ PR w' a cs G ∧ Fresh w w' G ∧ nodesP a ≤ 2000
set_option maxHeartbeats 8000000 in
theorem spec_DrawPatternValidF (bs : List Int) (w : World) (v : Value) (F : List Nat) (hx : Arr w (ByR w) bs v F) (hf : Under w.heap.size F) :
  Calls Try.prog 14 #[v] w (DrewWTPF w) := by
 have hB2 : Below w.heap.size w ((w.alloc (.cells #[.int .i64 0, .int .i64 0] 32)).alloc (.cells #[.int .i64 0, .int .i64 0, .int .i64 0, .int .i64 0, .int .i64 0, .slice none 0 0] 25)) := ((zy2 _ _).alloc (zz8 _) _).alloc (by simp) _
 have K22 : Hid (Blk ((w.alloc (.cells #[.int .i64 0, .int .i64 0] 32)).alloc (.cells #[.int .i64 0, .int .i64 0, .int .i64 0, .int .i64 0, .int .i64 0, .slice none 0 0] 25)) (w.heap.size) 32 #[.int .i64 0, .int .i64 0]) := (Blk.new w _ _).same (Below.heap_alloc _ _ _ (by simp))
 have K32 : Hid (Blk ((w.alloc (.cells #[.int .i64 0, .int .i64 0] 32)).alloc (.cells #[.int .i64 0, .int .i64 0, .int .i64 0, .int .i64 0, .int .i64 0, .slice none 0 0] 25)) (w.heap.size + 1) 25 #[.int .i64 0, .int .i64 0, .int .i64 0, .int .i64 0, .int .i64 0, .slice none 0 0]) := zA8 w _ 25 _
 have hs2 : (((w.alloc (.cells #[.int .i64 0, .int .i64 0] 32)).alloc (.cells #[.int .i64 0, .int .i64 0, .int .i64 0, .int .i64 0, .int .i64 0, .slice none 0 0] 25))).heap.size = w.heap.size + 2 := by simp
 have HX2 : Hid (Arr ((w.alloc (.cells #[.int .i64 0, .int .i64 0] 32)).alloc (.cells #[.int .i64 0, .int .i64 0, .int .i64 0, .int .i64 0, .int .i64 0, .slice none 0 0] 25)) (ByR ((w.alloc (.cells #[.int .i64 0, .int .i64 0] 32)).alloc (.cells #[.int .i64 0, .int .i64 0, .int .i64 0, .int .i64 0, .int .i64 0, .slice none 0 0] 25))) bs v F) := ArrBy.mono hx (.of_below hB2 hf)
 have HU2 : Hid (Under (((w.alloc (.cells #[.int .i64 0, .int .i64 0] 32)).alloc (.cells #[.int .i64 0, .int .i64 0, .int .i64 0, .int .i64 0, .int .i64 0, .slice none 0 0] 25))).heap.size F) := hf.mono hB2.size
 clear hx hf
 go_enter Try.func14, Try.ntmps14
 go_wp2_with fail
 obtain ⟨w2, hw2⟩ : ∃ X, X = ((w.alloc (.cells #[.int .i64 0, .int .i64 0] 32)).alloc (.cells #[.int .i64 0, .int .i64 0, .int .i64 0, .int .i64 0, .int .i64 0, .slice none 0 0] 25)) := ⟨_, rfl⟩
 rw [← hw2] at hB2 K22 K32 hs2 HX2 HU2 ⊢
 clear hw2
 refine (spec_l17Open bs w2 v F HX2.out HU2.out).mono ?_
 rintro e w3 ⟨g, rfl, hge, hb3, hR3⟩
 have HR3 := jj hR3
 have hg3 : g < w3.heap.size := hR3.lt
 have hB3 : Below w.heap.size w w3 := hB2.trans (hb3.mono hB2.size)
 have K23 := jj (K22.out.same (hb3.block _ K22.out.lt))
 have K33 := jj (K32.out.same (hb3.block _ K32.out.lt))
 clear hR3 hb3 K22 K32 HX2 HU2 hB2
 go_wp2_with fail
 refine (spec_l3Typed 0 g w3 HR3.out (by omega)).mono ?_
 rintro e w4 ⟨xs, v4, FW, t, a, csa, Fa, va, vA, vcap, q4, rfl, htok, ha4, hfs4, hp4, hf4, hn4, hr4, hq4, hc4⟩
 obtain ⟨kva, rfl, haa⟩ := (zA4 _ _ _).1 hp4
 obtain ⟨pA, pcap, rfl, -, -⟩ := haa.form
 obtain ⟨A1, cap1, rfl, -, -⟩ := ha4.form
 have hz4 := hc4.size
 have hB4 : Below w.heap.size w w4 := hB3.trans (hc4.below (fun b hb => by rw [zy1] at hb; omega) hB3.size)
 have K24 := jj (K23.out.same (hc4.block _ K23.out.lt (by rw [zy1]; omega)))
 have K34 := jj (K33.out.same (hc4.block _ K33.out.lt (by rw [zy1]; omega)))
 have HTOK := jj htok
 have HFW : Hid (∀ b ∈ FW, w3.heap.size ≤ b) := fun b hb => (hfs4 b hb).1
 have HFA : Hid (∀ b ∈ Fa, w3.heap.size ≤ b ∧ b ≠ g) := fun b hb => ⟨(hf4 b hb).2.2, (hf4 b hb).2.1⟩
 have hfwk := fun b hb => (hfs4 b hb).2
 have hfak := fun b hb => (hf4 b hb).1
 have HNA : Hid (nodesP a ≤ 2000) := by unfold Hid; omega
 have hna : nodesP a ≤ 512 := hn4
 have hb5 : Below w4.heap.size w4 (((w4.alloc (.cells #[.int .i64 t.d, .int .i64 t.i] 32)).alloc (.cells #[.int .i64 a.op, .int .i64 a.ct, .int .i64 a.n, .int .i64 a.m, .int .i64 a.va, .slice pA a.ks.length pcap] 25)).alloc (.cells #[.int .i64 va.c, .int .i64 va.n, .slice vA va.ks.length vcap] 53)) := (((zy2 _ _).alloc (zz8 _) _).alloc (by simp) _).alloc (by simp; omega) _
 have KB5 : Hid (Blk (((w4.alloc (.cells #[.int .i64 t.d, .int .i64 t.i] 32)).alloc (.cells #[.int .i64 a.op, .int .i64 a.ct, .int .i64 a.n, .int .i64 a.m, .int .i64 a.va, .slice pA a.ks.length pcap] 25)).alloc (.cells #[.int .i64 va.c, .int .i64 va.n, .slice vA va.ks.length vcap] 53)) w4.heap.size 32 #[.int .i64 t.d, .int .i64 t.i]) := ((Blk.new w4 _ _).same (Below.heap_alloc _ _ _ (by simp))).same (Below.heap_alloc _ _ _ (by simp; omega))
 have KC5 : Hid (Blk (((w4.alloc (.cells #[.int .i64 t.d, .int .i64 t.i] 32)).alloc (.cells #[.int .i64 a.op, .int .i64 a.ct, .int .i64 a.n, .int .i64 a.m, .int .i64 a.va, .slice pA a.ks.length pcap] 25)).alloc (.cells #[.int .i64 va.c, .int .i64 va.n, .slice vA va.ks.length vcap] 53)) (w4.heap.size + 1) 25 #[.int .i64 a.op, .int .i64 a.ct, .int .i64 a.n, .int .i64 a.m, .int .i64 a.va, .slice pA a.ks.length pcap]) := (zA8 w4 _ 25 _).same (Below.heap_alloc _ _ _ (by simp))
 have HA5 := jj (ArrDt.below ha4 hb5 (Fresh.under hfs4))
 have HUW5 : Hid (Under ((((w4.alloc (.cells #[.int .i64 t.d, .int .i64 t.i] 32)).alloc (.cells #[.int .i64 a.op, .int .i64 a.ct, .int .i64 a.n, .int .i64 a.m, .int .i64 a.va, .slice pA a.ks.length pcap] 25)).alloc (.cells #[.int .i64 va.c, .int .i64 va.n, .slice vA va.ks.length vcap] 53))).heap.size FW) := (Fresh.under hfs4).mono hb5.size
 have HP5 := jj (PR.below hp4 hb5 (fun b hb => (hf4 b hb).1))
 have HUa5 : Hid (Under ((((w4.alloc (.cells #[.int .i64 t.d, .int .i64 t.i] 32)).alloc (.cells #[.int .i64 a.op, .int .i64 a.ct, .int .i64 a.n, .int .i64 a.m, .int .i64 a.va, .slice pA a.ks.length pcap] 25)).alloc (.cells #[.int .i64 va.c, .int .i64 va.n, .slice vA va.ks.length vcap] 53))).heap.size Fa) := fun b hb => zz9 (hf4 b hb).1 hb5.size
 have HR5 := jj (hr4.below hb5)
 have HB5 : Hid (Below w.heap.size w (((w4.alloc (.cells #[.int .i64 t.d, .int .i64 t.i] 32)).alloc (.cells #[.int .i64 a.op, .int .i64 a.ct, .int .i64 a.n, .int .i64 a.m, .int .i64 a.va, .slice pA a.ks.length pcap] 25)).alloc (.cells #[.int .i64 va.c, .int .i64 va.n, .slice vA va.ks.length vcap] 53))) := hB4.trans (hb5.mono hB4.size)
 have K25 := jj (K24.out.same (hb5.block _ K24.out.lt))
 have K35 := jj (K34.out.same (hb5.block _ K34.out.lt))
 clear htok ha4 hfs4 hp4 hf4 hn4 hr4 hc4 haa hb5 K23 K33 K24 K34 HR3 hB3 hB4
 go_wp2_with fail
 obtain ⟨w5, hw5⟩ : ∃ X, X = (((w4.alloc (.cells #[.int .i64 t.d, .int .i64 t.i] 32)).alloc (.cells #[.int .i64 a.op, .int .i64 a.ct, .int .i64 a.n, .int .i64 a.m, .int .i64 a.va, .slice pA a.ks.length pcap] 25)).alloc (.cells #[.int .i64 va.c, .int .i64 va.n, .slice vA va.ks.length vcap] 53)) := ⟨_, rfl⟩
 rw [← hw5] at KB5 KC5 HA5 HUW5 HP5 HUa5 HR5 HB5 K25 K35 ⊢
 clear hw5
 obtain ⟨k, hk⟩ : ∃ X, X = w4.heap.size := ⟨_, rfl⟩
 obtain ⟨kp, hkp⟩ : ∃ X, X = k + 1 := ⟨_, rfl⟩
 rw [← hk] at KB5 KC5 hz4 hfwk hfak ⊢
 have HKW := jj hfwk
 have HKA := jj hfak
 clear hfwk hfak
 rw [← hkp] at KC5
 first | rw [← hkp] | skip
 have hkn : k < kp := by omega
 have HKH := jj (And.intro hk hkp)
 clear hk hkp
 refine (zAF 10 q4 g w5 HR5.out (by omega) (by omega) (by omega)).mono ?_
 rintro e w6 ⟨r, rfl, hr2, hR6, hc6⟩
 have HR6 := jj hR6
 have HB6 : Hid (Below w.heap.size w w6) := HB5.out.trans (hc6.below (fun b hb => by rw [zy1] at hb; omega) HB5.out.size)
 have hn1 : ∀ b, b < g ∨ w3.heap.size ≤ b → b ∉ [g] := fun b hb h => by rw [zy1] at h; omega
 have K26 := jj (K25.out.same (hc6.block _ K25.out.lt (hn1 _ (.inl (by omega)))))
 have K36 := jj (K35.out.same (hc6.block _ K35.out.lt (hn1 _ (.inl (by omega)))))
 have KB6 := jj (KB5.out.same (hc6.block _ KB5.out.lt (hn1 _ (.inr (by omega)))))
 have KC6 := jj (KC5.out.same (hc6.block _ KC5.out.lt (hn1 _ (.inr (by omega)))))
 have HA6 := jj (ArrDt.mono HA5.out (hc6.kept HUW5.out (fun b hb => hn1 b (.inr (HFW.out b hb)))))
 have HUW6 : Hid (Under w6.heap.size FW) := HUW5.out.mono hc6.size
 have HP6 := jj (PR.mono _ _ _ (hc6.kept HUa5.out (fun b hb => hn1 b (.inr (HFA.out b hb).1))) HP5.out)
 have HUa6 : Hid (Under w6.heap.size Fa) := HUa5.out.mono hc6.size
 have hk6 : kp < w6.heap.size := KC6.out.lt
 clear hR6 hc6 K25 K35 KB5 KC5 HA5 HUW5 HP5 HUa5 HR5 HB5 hn1
 cases q0 : ((r : Int) == 0) with
 |true =>
  go_wp2_with fail
  refine (spec_l1Some (q4 + 1) g w6 HR6.out (by omega) A1 xs.length cap1 HTOK.out.pos (by have := (worldOK HTOK.out.ok).len; omega)).mono ?_
  rintro e w7 ⟨t2, q5, rfl, hR7, hq7, hc7⟩
  have hn7 : ∀ b, b < g ∨ w3.heap.size ≤ b → b ∉ [g] := fun b hb h => by rw [zy1] at h; omega
  have K27 := jj (K26.out.same (hc7.block _ K26.out.lt (hn7 _ (.inl (by omega)))))
  have K37 := jj (K36.out.same (hc7.block _ K36.out.lt (hn7 _ (.inl (by omega)))))
  have KB7 := jj (KB6.out.same (hc7.block _ KB6.out.lt (hn7 _ (.inr (by omega)))))
  have KC7 := jj (KC6.out.same (hc7.block _ KC6.out.lt (hn7 _ (.inr (by omega)))))
  have HA7 := jj (ArrDt.mono HA6.out (hc7.kept HUW6.out (fun b hb => hn7 b (.inr (HFW.out b hb)))))
  have HUW7 : Hid (Under w7.heap.size FW) := HUW6.out.mono hc7.size
  have HP7 := jj (PR.mono _ _ _ (hc7.kept HUa6.out (fun b hb => hn7 b (.inr (HFA.out b hb).1))) HP6.out)
  have HUa7 : Hid (Under w7.heap.size Fa) := HUa6.out.mono hc7.size
  have HB7 : Hid (Below w.heap.size w w7) := HB6.out.trans (hc7.below (fun b hb => by rw [zy1] at hb; omega) HB6.out.size)
  have HR7 := jj hR7
  have y0 : w7.cell? ⟨k, 0, none⟩ = some (.int .i64 t.d) := (KB7.out.cell 0).trans (by simp)
  have y1 : w7.cell? ⟨k, 1, none⟩ = some (.int .i64 t.i) := (KB7.out.cell 1).trans (by simp)
  have f0 := KB7.out.frozen 0
  have f1 := KB7.out.frozen 1
  have ylt := KB7.out.lt
  clear hR7 hc7 K26 K36 KB6 KC6 HA6 HUW6 HP6 HUa6 HB6 HR6 hn7
  go_wp2_with fail
  clear y0 y1 f0 f1 ylt
  obtain ⟨wb, hwb⟩ : ∃ X, X = ((w7.setCell ⟨k, 0, none⟩ (.int .i64 t2.d)).setCell ⟨k, 1, none⟩ (.int .i64 t2.i)) := ⟨_, rfl⟩
  have hfar : ∀ b, b ≠ k → wb.heap[b]? = w7.heap[b]? := fun b hb => by rw [hwb, zz7 _ _ _ _ hb, zz7 _ _ _ _ hb]
  have KBb : Hid (Blk wb k 32 #[.int .i64 t2.d, .int .i64 t2.i]) := by rw [hwb]; exact (KB7.out.set_ 0 _).set_ 1 _
  have hzb : wb.heap.size = w7.heap.size := by rw [hwb]; simp [World.setCell]
  have HBb : Hid (Below w.heap.size w wb) := by rw [hwb]; exact (HB7.out.setCell (by show w.heap.size ≤ k; omega) _).setCell (by show w.heap.size ≤ k; omega) _
  rw [← hwb]
  clear hwb
  have K2b := jj (K27.out.same (hfar _ (by omega)))
  have K3b := jj (K37.out.same (hfar _ (by omega)))
  have KCb := jj (KC7.out.same (hfar _ (by omega)))
  have hkW : ∀ b ∈ FW, b ≠ k := fun b hb e => by have := HKW.out b hb; omega
  have hkA : ∀ b ∈ Fa, b ≠ k := fun b hb e => by have := HKA.out b hb; omega
  have HAb := jj (ArrDt.mono HA7.out (w' := wb) (fun b hb => hfar b (hkW b hb)))
  have HUWb : Hid (Under wb.heap.size FW) := by rw [hzb]; exact HUW7.out
  have HPb := jj (PR.mono (w' := wb) _ _ _ (fun b hb => hfar b (hkA b hb)) HP7.out)
  have HUab : Hid (Under wb.heap.size Fa) := by rw [hzb]; exact HUa7.out
  have HRb : Hid (Rd wb g q5) := HR7.out.keep fun b hb => hfar b (by omega)
  obtain ⟨qb, hqb⟩ : ∃ X, X = q5 := ⟨_, rfl⟩
  rw [← hqb] at HRb
  have hqb4 : qb ≤ 3000 := by omega
  have hkb : kp < wb.heap.size := KCb.out.lt
  clear hqb hfar hkW hkA hzb K27 K37 KC7 HA7 HUW7 HP7 HUa7 HR7 HB7 KB7 q0
  go_wp2_with fail
  have HS : Hid (∀ C : World, Chg [g, w.heap.size, w.heap.size + 1] wb C → (C.cell? ⟨k, 0, none⟩ = some (.int .i64 t2.d) ∧ C.cell? ⟨k, 1, none⟩ = some (.int .i64 t2.i) ∧ C.cell? ⟨kp, 0, none⟩ = some (.int .i64 a.op) ∧ C.cell? ⟨kp, 1, none⟩ = some (.int .i64 a.ct) ∧ C.cell? ⟨kp, 2, none⟩ = some (.int .i64 a.n) ∧ C.cell? ⟨kp, 3, none⟩ = some (.int .i64 a.m) ∧ C.cell? ⟨kp, 4, none⟩ = some (.int .i64 a.va) ∧ C.cell? ⟨kp, 5, none⟩ = some (.slice pA a.ks.length pcap))) := fun C hC => ⟨(hC.cell (Nat.lt_trans hkn hkb) (by simp; omega)).trans ((KBb.out.cell 0).trans (by simp)), (hC.cell (Nat.lt_trans hkn hkb) (by simp; omega)).trans ((KBb.out.cell 1).trans (by simp)), (hC.cell hkb (by simp; omega)).trans ((KCb.out.cell 0).trans (by simp)), (hC.cell hkb (by simp; omega)).trans ((KCb.out.cell 1).trans (by simp)), (hC.cell hkb (by simp; omega)).trans ((KCb.out.cell 2).trans (by simp)), (hC.cell hkb (by simp; omega)).trans ((KCb.out.cell 3).trans (by simp)), (hC.cell hkb (by simp; omega)).trans ((KCb.out.cell 4).trans (by simp)), (hC.cell hkb (by simp; omega)).trans ((KCb.out.cell 5).trans (by simp))⟩
  have hC0 : Chg [g, w.heap.size, w.heap.size + 1] wb wb.drew := (Chg.refl _ _).drew
  have K2d : Hid (Blk wb.drew (w.heap.size) 32 #[.int .i64 0, .int .i64 0]) := K2b.out
  have K3d : Hid (Blk wb.drew (w.heap.size + 1) 25 #[.int .i64 0, .int .i64 0, .int .i64 0, .int .i64 0, .int .i64 0, .slice none 0 0]) := K3b.out
  have HPd : Hid (PR wb.drew a [.int .i64 a.op, .int .i64 a.ct, .int .i64 a.n, .int .i64 a.m, .int .i64 a.va, .slice pA a.ks.length pcap] Fa) := PR.drew HPb.out
  have HUd : Hid (Under wb.drew.heap.size Fa) := HUab.out
  have HRd : Hid (Rd wb.drew g qb) := HRb.out.keep (fun b hb => rfl)
  have HAd : Hid (Arr wb.drew (DtR wb.drew) xs (.slice A1 xs.length cap1) FW) := ArrDt.drew HAb.out
  have HWd : Hid (Under wb.drew.heap.size FW) := HUWb.out
  refine zA7 (S := fun w' => w'.cell? ⟨k, 0, none⟩ = some (.int .i64 t2.d) ∧ w'.cell? ⟨k, 1, none⟩ = some (.int .i64 t2.i) ∧ w'.cell? ⟨kp, 0, none⟩ = some (.int .i64 a.op) ∧ w'.cell? ⟨kp, 1, none⟩ = some (.int .i64 a.ct) ∧ w'.cell? ⟨kp, 2, none⟩ = some (.int .i64 a.n) ∧ w'.cell? ⟨kp, 3, none⟩ = some (.int .i64 a.m) ∧ w'.cell? ⟨kp, 4, none⟩ = some (.int .i64 a.va) ∧ w'.cell? ⟨kp, 5, none⟩ = some (.slice pA a.ks.length pcap)) (T := fun _ => True) (d := 99) (by kernel_rfl) ?_
  obtain ⟨wd, hwd⟩ : ∃ X, X = wb.drew := ⟨_, rfl⟩
  have hzd : wb.heap.size ≤ wd.heap.size := by rw [hwd]; exact zz8 _
  rw [← hwd] at hC0 K2d K3d HPd HUd HRd HAd HWd ⊢
  clear hwd
  have hS0 := HS.out _ hC0
  have hT0 : True := trivial
  refine wU (i := 0) (v := ?_) rfl (Or.inl ⟨by rfl, ?hy0⟩) hS0 (fun _ => hT0) ?_
  case hy0 => (intro W hSw; (try dsimp only at hSw); (try obtain ⟨hSw0, hSw1, hSw2, hSw3, hSw4, hSw5, hSw6, hSw7⟩ := hSw); go_simp; try with_reducible rfl)
  (try simp only [Act.put, zz1, zz2, zz3, zz4, zz5, zz6])
  refine wU (i := 1) (v := ?_) rfl (Or.inl ⟨by rfl, ?hy1⟩) hS0 (fun _ => hT0) ?_
  case hy1 => (intro W hSw; (try dsimp only at hSw); (try obtain ⟨hSw0, hSw1, hSw2, hSw3, hSw4, hSw5, hSw6, hSw7⟩ := hSw); go_simp; try with_reducible rfl)
  (try simp only [Act.put, zz1, zz2, zz3, zz4, zz5, zz6])
  refine wU (i := 3) (v := ?_) rfl (Or.inl ⟨by rfl, ?hy3⟩) hS0 (fun _ => hT0) ?_
  case hy3 => (intro W hSw; (try dsimp only at hSw); (try obtain ⟨hSw0, hSw1, hSw2, hSw3, hSw4, hSw5, hSw6, hSw7⟩ := hSw); go_simp; try with_reducible rfl)
  (try simp only [Act.put, zz1, zz2, zz3, zz4, zz5, zz6])
  refine wU (i := 4) (v := ?_) rfl (Or.inl ⟨by rfl, ?hy4⟩) hS0 (fun _ => hT0) ?_
  case hy4 => (intro W hSw; (try dsimp only at hSw); (try obtain ⟨hSw0, hSw1, hSw2, hSw3, hSw4, hSw5, hSw6, hSw7⟩ := hSw); go_simp; try with_reducible rfl)
  (try simp only [Act.put, zz1, zz2, zz3, zz4, zz5, zz6])
  refine wU (i := 5) (v := ?_) rfl (Or.inl ⟨by rfl, ?hy5⟩) hS0 (fun _ => hT0) ?_
  case hy5 => (intro W hSw; (try dsimp only at hSw); (try obtain ⟨hSw0, hSw1, hSw2, hSw3, hSw4, hSw5, hSw6, hSw7⟩ := hSw); go_simp; try with_reducible rfl)
  (try simp only [Act.put, zz1, zz2, zz3, zz4, zz5, zz6])
  refine wR (rs := [2]) (by kernel_rfl) (by simp) ?_
  refine AllReadyB.c rfl (fun K hK => ?_) AllReadyB.n
  go_simp
  go_at_call 56
  refine (spec_l1Mutate qb g wd HRd.out (by omega) xs _ FW HAd.out HWd.out HTOK.out.pos (by have := (worldOK HTOK.out.ok).len; omega) 4 (by omega) (SmallW.of (worldOK HTOK.out.ok))).mono ?_
  rintro e C1 ⟨ys, v6, F6, q6, rfl, -, ha6, hfs6, hr6, hq6, hc1⟩
  have hC1 : Chg [g, w.heap.size, w.heap.size + 1] wb C1 := hC0.trans (hc1.mono (by simp))
  have K21 := jj (K2d.out.same (hc1.block _ K2d.out.lt (by rw [zy1]; omega)))
  have K31 := jj (K3d.out.same (hc1.block _ K3d.out.lt (by rw [zy1]; omega)))
  have HP1 := jj (PR.mono _ _ _ (hc1.kept HUd.out (fun b hb h => by rw [zy1] at h; exact (HFA.out b hb).2 h)) HPd.out)
  have HU1 : Hid (Under C1.heap.size Fa) := HUd.out.mono hc1.size
  have HA1 := jj ha6
  have HR1 := jj hr6
  have HF6 : Hid (∀ b ∈ F6, wd.heap.size ≤ b ∧ b < C1.heap.size) := hfs6
  have hz1 := hc1.size
  have hwdk : w.heap.size + 2 ≤ wd.heap.size ∧ g < wd.heap.size := by have := HRd.out.lt; have := K3d.out.lt; omega
  clear ha6 hfs6 hr6 hc1 K2d K3d HPd HUd HRd HAd HWd
  (try dsimp only)
  refine hK.out _ _ (HS.out _ hC1) (fun _ => trivial) ?_
  clear hK K
  (try simp only [Act.put, zz1, zz2, zz3, zz4, zz5, zz6])
  refine wR (rs := [6]) (by kernel_rfl) (by simp) ?_
  refine AllReadyB.c rfl (fun K hK => ?_) AllReadyB.n
  go_simp
  go_at_call 53
  refine (spec_l3Mutate a HNA.out C1 q6 g HR1.out (by omega) _ Fa HP1.out HU1.out (fun b hb => (HFA.out b hb).2)).mono ?_
  rintro e C2 ⟨b, cs2, Fb, q8, rfl, hp2, hf2, hn2, -, -, hc2⟩
  obtain ⟨kvb, rfl, hbb⟩ := (zA4 _ _ _).1 hp2
  obtain ⟨qA, qcap, rfl, -, -⟩ := hbb.form
  have hC2 : Chg [g, w.heap.size, w.heap.size + 1] wb C2 := hC1.trans (hc2.mono (by simp))
  have K22 := jj (K21.out.same (hc2.block _ K21.out.lt (by rw [zy1]; omega)))
  have K32 := jj (K31.out.same (hc2.block _ K31.out.lt (by rw [zy1]; omega)))
  have HA2 := jj (ArrDt.mono HA1.out (hc2.kept (fun b hb => (HF6.out b hb).2) (fun b hb h => by rw [zy1] at h; have := (HF6.out b hb).1; omega)))
  have HU2 : Hid (Under C2.heap.size F6) := fun b hb => zz9 (HF6.out b hb).2 hc2.size
  have HPB := jj hp2
  have HUB : Hid (Under C2.heap.size Fb) := fun x hx => (hf2 x hx).1
  have HFB : Hid (∀ x ∈ Fb, w3.heap.size ≤ x ∧ x ≠ g) := fun x hx => ⟨by
   rcases (hf2 x hx).2.2 with h | h
   ·exact (HFA.out x h).1
   ·omega, (hf2 x hx).2.1⟩
  have HNB : Hid (nodesP b ≤ 2000) := by unfold Hid; omega
  clear hp2 hf2 hc2 hbb HA1 HR1
  (try dsimp only)
  refine hK.out _ _ (HS.out _ hC2) (fun _ => trivial) ?_
  clear hK K
  (try simp only [Act.put, zz1, zz2, zz3, zz4, zz5, zz6])
  refine wR (rs := [7]) (by kernel_rfl) (by simp) ?_
  refine AllReadyB.c rfl (fun K hK => ?_) AllReadyB.n
  go_simp
  (try dsimp only)
  refine hK.out _ _ (HS.out _ hC2) (fun _ => trivial) ?_
  clear hK K
  (try simp only [Act.put, zz1, zz2, zz3, zz4, zz5, zz6])
  refine wR (rs := [8]) (by kernel_rfl) (by simp) ?_
  refine AllReadyB.c rfl (fun K hK => ?_) AllReadyB.n
  have yy0 : C2.cell? ⟨w.heap.size, 0, none⟩ = some (.int .i64 0) := (K22.out.cell 0).trans (by simp)
  have ff0 := K22.out.frozen 0
  have yy1 : C2.cell? ⟨w.heap.size, 1, none⟩ = some (.int .i64 0) := (K22.out.cell 1).trans (by simp)
  have ff1 := K22.out.frozen 1
  have yylt := K22.out.lt
  have hC12 : Chg [g, w.heap.size, w.heap.size + 1] wb ((C2.setCell ⟨w.heap.size, 0, none⟩ (.int .i64 t2.d)).setCell ⟨w.heap.size, 1, none⟩ (.int .i64 t2.i)) := ((hC2.set (by simp)).set (by simp))
  have KK12 : Hid (Blk ((C2.setCell ⟨w.heap.size, 0, none⟩ (.int .i64 t2.d)).setCell ⟨w.heap.size, 1, none⟩ (.int .i64 t2.i)) (w.heap.size) 32 #[.int .i64 t2.d, .int .i64 t2.i]) := ((K22.out.set_ 0 _).set_ 1 _)
  have K3212 : Hid (Blk ((C2.setCell ⟨w.heap.size, 0, none⟩ (.int .i64 t2.d)).setCell ⟨w.heap.size, 1, none⟩ (.int .i64 t2.i)) (w.heap.size + 1) 25 #[.int .i64 0, .int .i64 0, .int .i64 0, .int .i64 0, .int .i64 0, .slice none 0 0]) := ((K32.out.same (zz7 _ _ _ _ (by show w.heap.size + 1 ≠ w.heap.size; omega))).same (zz7 _ _ _ _ (by show w.heap.size + 1 ≠ w.heap.size; omega)))
  have hz12 : (((C2.setCell ⟨w.heap.size, 0, none⟩ (.int .i64 t2.d)).setCell ⟨w.heap.size, 1, none⟩ (.int .i64 t2.i))).heap.size = C2.heap.size := by simp [World.setCell]
  have hkA12 : Kept F6 C2 ((C2.setCell ⟨w.heap.size, 0, none⟩ (.int .i64 t2.d)).setCell ⟨w.heap.size, 1, none⟩ (.int .i64 t2.i)) := fun x hx => by rw [zz7 _ _ _ _ (by show x ≠ w.heap.size; have := HF6.out x hx; omega), zz7 _ _ _ _ (by show x ≠ w.heap.size; have := HF6.out x hx; omega)]
  have hkB12 : Kept Fb C2 ((C2.setCell ⟨w.heap.size, 0, none⟩ (.int .i64 t2.d)).setCell ⟨w.heap.size, 1, none⟩ (.int .i64 t2.i)) := fun x hx => by rw [zz7 _ _ _ _ (by show x ≠ w.heap.size; have := HFB.out x hx; omega), zz7 _ _ _ _ (by show x ≠ w.heap.size; have := HFB.out x hx; omega)]
  go_simp
  refine hK.out _ _ (HS.out _ hC12) (fun _ => trivial) ?_
  clear hK K
  (try simp only [Act.put, zz1, zz2, zz3, zz4, zz5, zz6])
  clear yy0 ff0 yy1 ff1 yylt
  obtain ⟨D2, hX⟩ : ∃ X, X = ((C2.setCell ⟨w.heap.size, 0, none⟩ (.int .i64 t2.d)).setCell ⟨w.heap.size, 1, none⟩ (.int .i64 t2.i)) := ⟨_, rfl⟩
  rw [← hX] at hC12 KK12 K3212 hz12 hkA12 hkB12 ⊢
  clear hX
  refine wR (rs := [9]) (by kernel_rfl) (by simp) ?_
  refine AllReadyB.c rfl (fun K hK => ?_) AllReadyB.n
  have yy0 : D2.cell? ⟨w.heap.size + 1, 0, none⟩ = some (.int .i64 0) := (K3212.out.cell 0).trans (by simp)
  have ff0 := K3212.out.frozen 0
  have yy1 : D2.cell? ⟨w.heap.size + 1, 1, none⟩ = some (.int .i64 0) := (K3212.out.cell 1).trans (by simp)
  have ff1 := K3212.out.frozen 1
  have yy2 : D2.cell? ⟨w.heap.size + 1, 2, none⟩ = some (.int .i64 0) := (K3212.out.cell 2).trans (by simp)
  have ff2 := K3212.out.frozen 2
  have yy3 : D2.cell? ⟨w.heap.size + 1, 3, none⟩ = some (.int .i64 0) := (K3212.out.cell 3).trans (by simp)
  have ff3 := K3212.out.frozen 3
  have yy4 : D2.cell? ⟨w.heap.size + 1, 4, none⟩ = some (.int .i64 0) := (K3212.out.cell 4).trans (by simp)
  have ff4 := K3212.out.frozen 4
  have yy5 : D2.cell? ⟨w.heap.size + 1, 5, none⟩ = some (.slice none 0 0) := (K3212.out.cell 5).trans (by simp)
  have ff5 := K3212.out.frozen 5
  have yylt := K3212.out.lt
  have hC13 : Chg [g, w.heap.size, w.heap.size + 1] wb ((((((D2.setCell ⟨w.heap.size + 1, 0, none⟩ (.int .i64 b.op)).setCell ⟨w.heap.size + 1, 1, none⟩ (.int .i64 b.ct)).setCell ⟨w.heap.size + 1, 2, none⟩ (.int .i64 b.n)).setCell ⟨w.heap.size + 1, 3, none⟩ (.int .i64 b.m)).setCell ⟨w.heap.size + 1, 4, none⟩ (.int .i64 b.va)).setCell ⟨w.heap.size + 1, 5, none⟩ (.slice qA b.ks.length qcap)) := ((((((hC12.set (by simp)).set (by simp)).set (by simp)).set (by simp)).set (by simp)).set (by simp))
  have KK13 : Hid (Blk ((((((D2.setCell ⟨w.heap.size + 1, 0, none⟩ (.int .i64 b.op)).setCell ⟨w.heap.size + 1, 1, none⟩ (.int .i64 b.ct)).setCell ⟨w.heap.size + 1, 2, none⟩ (.int .i64 b.n)).setCell ⟨w.heap.size + 1, 3, none⟩ (.int .i64 b.m)).setCell ⟨w.heap.size + 1, 4, none⟩ (.int .i64 b.va)).setCell ⟨w.heap.size + 1, 5, none⟩ (.slice qA b.ks.length qcap)) (w.heap.size + 1) 25 #[.int .i64 b.op, .int .i64 b.ct, .int .i64 b.n, .int .i64 b.m, .int .i64 b.va, .slice qA b.ks.length qcap]) := ((((((K3212.out.set_ 0 _).set_ 1 _).set_ 2 _).set_ 3 _).set_ 4 _).set_ 5 _)
  have KK1213 : Hid (Blk ((((((D2.setCell ⟨w.heap.size + 1, 0, none⟩ (.int .i64 b.op)).setCell ⟨w.heap.size + 1, 1, none⟩ (.int .i64 b.ct)).setCell ⟨w.heap.size + 1, 2, none⟩ (.int .i64 b.n)).setCell ⟨w.heap.size + 1, 3, none⟩ (.int .i64 b.m)).setCell ⟨w.heap.size + 1, 4, none⟩ (.int .i64 b.va)).setCell ⟨w.heap.size + 1, 5, none⟩ (.slice qA b.ks.length qcap)) (w.heap.size) 32 #[.int .i64 t2.d, .int .i64 t2.i]) := ((((((KK12.out.same (zz7 _ _ _ _ (by show w.heap.size ≠ w.heap.size + 1; omega))).same (zz7 _ _ _ _ (by show w.heap.size ≠ w.heap.size + 1; omega))).same (zz7 _ _ _ _ (by show w.heap.size ≠ w.heap.size + 1; omega))).same (zz7 _ _ _ _ (by show w.heap.size ≠ w.heap.size + 1; omega))).same (zz7 _ _ _ _ (by show w.heap.size ≠ w.heap.size + 1; omega))).same (zz7 _ _ _ _ (by show w.heap.size ≠ w.heap.size + 1; omega)))
  have hz13 : (((((((D2.setCell ⟨w.heap.size + 1, 0, none⟩ (.int .i64 b.op)).setCell ⟨w.heap.size + 1, 1, none⟩ (.int .i64 b.ct)).setCell ⟨w.heap.size + 1, 2, none⟩ (.int .i64 b.n)).setCell ⟨w.heap.size + 1, 3, none⟩ (.int .i64 b.m)).setCell ⟨w.heap.size + 1, 4, none⟩ (.int .i64 b.va)).setCell ⟨w.heap.size + 1, 5, none⟩ (.slice qA b.ks.length qcap))).heap.size = D2.heap.size := by simp [World.setCell]
  have hkA13 : Kept F6 D2 ((((((D2.setCell ⟨w.heap.size + 1, 0, none⟩ (.int .i64 b.op)).setCell ⟨w.heap.size + 1, 1, none⟩ (.int .i64 b.ct)).setCell ⟨w.heap.size + 1, 2, none⟩ (.int .i64 b.n)).setCell ⟨w.heap.size + 1, 3, none⟩ (.int .i64 b.m)).setCell ⟨w.heap.size + 1, 4, none⟩ (.int .i64 b.va)).setCell ⟨w.heap.size + 1, 5, none⟩ (.slice qA b.ks.length qcap)) := fun x hx => by rw [zz7 _ _ _ _ (by show x ≠ w.heap.size + 1; have := HF6.out x hx; omega), zz7 _ _ _ _ (by show x ≠ w.heap.size + 1; have := HF6.out x hx; omega), zz7 _ _ _ _ (by show x ≠ w.heap.size + 1; have := HF6.out x hx; omega), zz7 _ _ _ _ (by show x ≠ w.heap.size + 1; have := HF6.out x hx; omega), zz7 _ _ _ _ (by show x ≠ w.heap.size + 1; have := HF6.out x hx; omega), zz7 _ _ _ _ (by show x ≠ w.heap.size + 1; have := HF6.out x hx; omega)]
  have hkB13 : Kept Fb D2 ((((((D2.setCell ⟨w.heap.size + 1, 0, none⟩ (.int .i64 b.op)).setCell ⟨w.heap.size + 1, 1, none⟩ (.int .i64 b.ct)).setCell ⟨w.heap.size + 1, 2, none⟩ (.int .i64 b.n)).setCell ⟨w.heap.size + 1, 3, none⟩ (.int .i64 b.m)).setCell ⟨w.heap.size + 1, 4, none⟩ (.int .i64 b.va)).setCell ⟨w.heap.size + 1, 5, none⟩ (.slice qA b.ks.length qcap)) := fun x hx => by rw [zz7 _ _ _ _ (by show x ≠ w.heap.size + 1; have := HFB.out x hx; omega), zz7 _ _ _ _ (by show x ≠ w.heap.size + 1; have := HFB.out x hx; omega), zz7 _ _ _ _ (by show x ≠ w.heap.size + 1; have := HFB.out x hx; omega), zz7 _ _ _ _ (by show x ≠ w.heap.size + 1; have := HFB.out x hx; omega), zz7 _ _ _ _ (by show x ≠ w.heap.size + 1; have := HFB.out x hx; omega), zz7 _ _ _ _ (by show x ≠ w.heap.size + 1; have := HFB.out x hx; omega)]
  go_simp
  refine hK.out _ _ (HS.out _ hC13) (fun _ => trivial) ?_
  clear hK K
  (try simp only [Act.put, zz1, zz2, zz3, zz4, zz5, zz6])
  clear yy0 ff0 yy1 ff1 yy2 ff2 yy3 ff3 yy4 ff4 yy5 ff5 yylt
  obtain ⟨D3, hX⟩ : ∃ X, X = ((((((D2.setCell ⟨w.heap.size + 1, 0, none⟩ (.int .i64 b.op)).setCell ⟨w.heap.size + 1, 1, none⟩ (.int .i64 b.ct)).setCell ⟨w.heap.size + 1, 2, none⟩ (.int .i64 b.n)).setCell ⟨w.heap.size + 1, 3, none⟩ (.int .i64 b.m)).setCell ⟨w.heap.size + 1, 4, none⟩ (.int .i64 b.va)).setCell ⟨w.heap.size + 1, 5, none⟩ (.slice qA b.ks.length qcap)) := ⟨_, rfl⟩
  rw [← hX] at hC13 KK13 KK1213 hz13 hkA13 hkB13 ⊢
  clear hX
  refine wE (by kernel_rfl) ?_
  clear hS0 hT0
  have HFin : Hid (DrewWTPF w (.returned (.tuple #[v6, .agg #[.int .i64 t2.d, .int .i64 t2.i], .agg #[.int .i64 b.op, .int .i64 b.ct, .int .i64 b.n, .int .i64 b.m, .int .i64 b.va, .slice qA b.ks.length qcap]])) D3) := by
   have hz : D3.heap.size = C2.heap.size := by rw [hz13, hz12]
   refine ⟨ys, v6, F6, t2, b, [.int .i64 b.op, .int .i64 b.ct, .int .i64 b.n, .int .i64 b.m, .int .i64 b.va, .slice qA b.ks.length qcap], Fb, rfl, HBb.out.trans (hC13.below (by intro x hx; simp at hx; omega) HBb.out.size), ArrDt.mono (ArrDt.mono HA2.out hkA12) hkA13, ?_, PR.mono _ _ _ hkB13 (PR.mono _ _ _ hkB12 HPB.out), ?_, HNB.out⟩
   ·intro x hx; rw [hz]; exact ⟨by have := (HF6.out x hx).1; omega, HU2.out x hx⟩
   ·intro x hx; rw [hz]; exact ⟨by have := (HFB.out x hx).1; omega, HUB.out x hx⟩
  clear hkA12 hkA13 hkB12 hkB13 hC12 hC13 hC2 hC1 hC0
  go_wp2
  refine bodyPost_ret (zAH rfl _ _ (w.heap.size) (w.heap.size + 1) 32 25 #[.int .i64 t2.d, .int .i64 t2.i] #[.int .i64 b.op, .int .i64 b.ct, .int .i64 b.n, .int .i64 b.m, .int .i64 b.va, .slice qA b.ks.length qcap] (0, 0) (0, 0) _ _ rfl KK1213.out Try.underlying32 rfl rfl rfl KK13.out Try.underlying25 rfl rfl) rfl ?_
  exact HFin.out
 |false =>
  go_wp2_with fail
  obtain ⟨wb, hwb⟩ : ∃ X, X = w6 := ⟨_, rfl⟩
  obtain ⟨qb, hqb⟩ : ∃ X, X = q4 + 1 := ⟨_, rfl⟩
  have hqb4 : qb ≤ 3000 := by omega
  rw [← hwb] at K26 K36 KB6 KC6 HA6 HUW6 HP6 HUa6 HB6 HR6 hk6 ⊢
  rw [← hqb] at HR6
  clear hwb hqb
  have K2b := K26
  have K3b := K36
  have KBb := KB6
  have KCb := KC6
  have HAb := HA6
  have HUWb := HUW6
  have HPb := HP6
  have HUab := HUa6
  have HRb := HR6
  have HBb := HB6
  have hkb := hk6
  clear K26 K36 KB6 KC6 HA6 HUW6 HP6 HUa6 HB6 HR6 hk6 q0
  have HS : Hid (∀ C : World, Chg [g, w.heap.size, w.heap.size + 1] wb C → (C.cell? ⟨k, 0, none⟩ = some (.int .i64 t.d) ∧ C.cell? ⟨k, 1, none⟩ = some (.int .i64 t.i) ∧ C.cell? ⟨kp, 0, none⟩ = some (.int .i64 a.op) ∧ C.cell? ⟨kp, 1, none⟩ = some (.int .i64 a.ct) ∧ C.cell? ⟨kp, 2, none⟩ = some (.int .i64 a.n) ∧ C.cell? ⟨kp, 3, none⟩ = some (.int .i64 a.m) ∧ C.cell? ⟨kp, 4, none⟩ = some (.int .i64 a.va) ∧ C.cell? ⟨kp, 5, none⟩ = some (.slice pA a.ks.length pcap))) := fun C hC => ⟨(hC.cell (Nat.lt_trans hkn hkb) (by simp; omega)).trans ((KBb.out.cell 0).trans (by simp)), (hC.cell (Nat.lt_trans hkn hkb) (by simp; omega)).trans ((KBb.out.cell 1).trans (by simp)), (hC.cell hkb (by simp; omega)).trans ((KCb.out.cell 0).trans (by simp)), (hC.cell hkb (by simp; omega)).trans ((KCb.out.cell 1).trans (by simp)), (hC.cell hkb (by simp; omega)).trans ((KCb.out.cell 2).trans (by simp)), (hC.cell hkb (by simp; omega)).trans ((KCb.out.cell 3).trans (by simp)), (hC.cell hkb (by simp; omega)).trans ((KCb.out.cell 4).trans (by simp)), (hC.cell hkb (by simp; omega)).trans ((KCb.out.cell 5).trans (by simp))⟩
  have hC0 : Chg [g, w.heap.size, w.heap.size + 1] wb wb.drew := (Chg.refl _ _).drew
  have K2d : Hid (Blk wb.drew (w.heap.size) 32 #[.int .i64 0, .int .i64 0]) := K2b.out
  have K3d : Hid (Blk wb.drew (w.heap.size + 1) 25 #[.int .i64 0, .int .i64 0, .int .i64 0, .int .i64 0, .int .i64 0, .slice none 0 0]) := K3b.out
  have HPd : Hid (PR wb.drew a [.int .i64 a.op, .int .i64 a.ct, .int .i64 a.n, .int .i64 a.m, .int .i64 a.va, .slice pA a.ks.length pcap] Fa) := PR.drew HPb.out
  have HUd : Hid (Under wb.drew.heap.size Fa) := HUab.out
  have HRd : Hid (Rd wb.drew g qb) := HRb.out.keep (fun b hb => rfl)
  have HAd : Hid (Arr wb.drew (DtR wb.drew) xs (.slice A1 xs.length cap1) FW) := ArrDt.drew HAb.out
  have HWd : Hid (Under wb.drew.heap.size FW) := HUWb.out
  refine zA7 (S := fun w' => w'.cell? ⟨k, 0, none⟩ = some (.int .i64 t.d) ∧ w'.cell? ⟨k, 1, none⟩ = some (.int .i64 t.i) ∧ w'.cell? ⟨kp, 0, none⟩ = some (.int .i64 a.op) ∧ w'.cell? ⟨kp, 1, none⟩ = some (.int .i64 a.ct) ∧ w'.cell? ⟨kp, 2, none⟩ = some (.int .i64 a.n) ∧ w'.cell? ⟨kp, 3, none⟩ = some (.int .i64 a.m) ∧ w'.cell? ⟨kp, 4, none⟩ = some (.int .i64 a.va) ∧ w'.cell? ⟨kp, 5, none⟩ = some (.slice pA a.ks.length pcap)) (T := fun _ => True) (d := 99) (by kernel_rfl) ?_
  obtain ⟨wd, hwd⟩ : ∃ X, X = wb.drew := ⟨_, rfl⟩
  have hzd : wb.heap.size ≤ wd.heap.size := by rw [hwd]; exact zz8 _
  rw [← hwd] at hC0 K2d K3d HPd HUd HRd HAd HWd ⊢
  clear hwd
  have hS0 := HS.out _ hC0
  have hT0 : True := trivial
  refine wU (i := 0) (v := ?_) rfl (Or.inl ⟨by rfl, ?hy0⟩) hS0 (fun _ => hT0) ?_
  case hy0 => (intro W hSw; (try dsimp only at hSw); (try obtain ⟨hSw0, hSw1, hSw2, hSw3, hSw4, hSw5, hSw6, hSw7⟩ := hSw); go_simp; try with_reducible rfl)
  (try simp only [Act.put, zz1, zz2, zz3, zz4, zz5, zz6])
  refine wU (i := 1) (v := ?_) rfl (Or.inl ⟨by rfl, ?hy1⟩) hS0 (fun _ => hT0) ?_
  case hy1 => (intro W hSw; (try dsimp only at hSw); (try obtain ⟨hSw0, hSw1, hSw2, hSw3, hSw4, hSw5, hSw6, hSw7⟩ := hSw); go_simp; try with_reducible rfl)
  (try simp only [Act.put, zz1, zz2, zz3, zz4, zz5, zz6])
  refine wU (i := 3) (v := ?_) rfl (Or.inl ⟨by rfl, ?hy3⟩) hS0 (fun _ => hT0) ?_
  case hy3 => (intro W hSw; (try dsimp only at hSw); (try obtain ⟨hSw0, hSw1, hSw2, hSw3, hSw4, hSw5, hSw6, hSw7⟩ := hSw); go_simp; try with_reducible rfl)
  (try simp only [Act.put, zz1, zz2, zz3, zz4, zz5, zz6])
  refine wU (i := 4) (v := ?_) rfl (Or.inl ⟨by rfl, ?hy4⟩) hS0 (fun _ => hT0) ?_
  case hy4 => (intro W hSw; (try dsimp only at hSw); (try obtain ⟨hSw0, hSw1, hSw2, hSw3, hSw4, hSw5, hSw6, hSw7⟩ := hSw); go_simp; try with_reducible rfl)
  (try simp only [Act.put, zz1, zz2, zz3, zz4, zz5, zz6])
  refine wU (i := 5) (v := ?_) rfl (Or.inl ⟨by rfl, ?hy5⟩) hS0 (fun _ => hT0) ?_
  case hy5 => (intro W hSw; (try dsimp only at hSw); (try obtain ⟨hSw0, hSw1, hSw2, hSw3, hSw4, hSw5, hSw6, hSw7⟩ := hSw); go_simp; try with_reducible rfl)
  (try simp only [Act.put, zz1, zz2, zz3, zz4, zz5, zz6])
  refine wR (rs := [2]) (by kernel_rfl) (by simp) ?_
  refine AllReadyB.c rfl (fun K hK => ?_) AllReadyB.n
  go_simp
  go_at_call 56
  refine (spec_l1Mutate qb g wd HRd.out (by omega) xs _ FW HAd.out HWd.out HTOK.out.pos (by have := (worldOK HTOK.out.ok).len; omega) 4 (by omega) (SmallW.of (worldOK HTOK.out.ok))).mono ?_
  rintro e C1 ⟨ys, v6, F6, q6, rfl, -, ha6, hfs6, hr6, hq6, hc1⟩
  have hC1 : Chg [g, w.heap.size, w.heap.size + 1] wb C1 := hC0.trans (hc1.mono (by simp))
  have K21 := jj (K2d.out.same (hc1.block _ K2d.out.lt (by rw [zy1]; omega)))
  have K31 := jj (K3d.out.same (hc1.block _ K3d.out.lt (by rw [zy1]; omega)))
  have HP1 := jj (PR.mono _ _ _ (hc1.kept HUd.out (fun b hb h => by rw [zy1] at h; exact (HFA.out b hb).2 h)) HPd.out)
  have HU1 : Hid (Under C1.heap.size Fa) := HUd.out.mono hc1.size
  have HA1 := jj ha6
  have HR1 := jj hr6
  have HF6 : Hid (∀ b ∈ F6, wd.heap.size ≤ b ∧ b < C1.heap.size) := hfs6
  have hz1 := hc1.size
  have hwdk : w.heap.size + 2 ≤ wd.heap.size ∧ g < wd.heap.size := by have := HRd.out.lt; have := K3d.out.lt; omega
  clear ha6 hfs6 hr6 hc1 K2d K3d HPd HUd HRd HAd HWd
  (try dsimp only)
  refine hK.out _ _ (HS.out _ hC1) (fun _ => trivial) ?_
  clear hK K
  (try simp only [Act.put, zz1, zz2, zz3, zz4, zz5, zz6])
  refine wR (rs := [6]) (by kernel_rfl) (by simp) ?_
  refine AllReadyB.c rfl (fun K hK => ?_) AllReadyB.n
  go_simp
  go_at_call 53
  refine (spec_l3Mutate a HNA.out C1 q6 g HR1.out (by omega) _ Fa HP1.out HU1.out (fun b hb => (HFA.out b hb).2)).mono ?_
  rintro e C2 ⟨b, cs2, Fb, q8, rfl, hp2, hf2, hn2, -, -, hc2⟩
  obtain ⟨kvb, rfl, hbb⟩ := (zA4 _ _ _).1 hp2
  obtain ⟨qA, qcap, rfl, -, -⟩ := hbb.form
  have hC2 : Chg [g, w.heap.size, w.heap.size + 1] wb C2 := hC1.trans (hc2.mono (by simp))
  have K22 := jj (K21.out.same (hc2.block _ K21.out.lt (by rw [zy1]; omega)))
  have K32 := jj (K31.out.same (hc2.block _ K31.out.lt (by rw [zy1]; omega)))
  have HA2 := jj (ArrDt.mono HA1.out (hc2.kept (fun b hb => (HF6.out b hb).2) (fun b hb h => by rw [zy1] at h; have := (HF6.out b hb).1; omega)))
  have HU2 : Hid (Under C2.heap.size F6) := fun b hb => zz9 (HF6.out b hb).2 hc2.size
  have HPB := jj hp2
  have HUB : Hid (Under C2.heap.size Fb) := fun x hx => (hf2 x hx).1
  have HFB : Hid (∀ x ∈ Fb, w3.heap.size ≤ x ∧ x ≠ g) := fun x hx => ⟨by
   rcases (hf2 x hx).2.2 with h | h
   ·exact (HFA.out x h).1
   ·omega, (hf2 x hx).2.1⟩
  have HNB : Hid (nodesP b ≤ 2000) := by unfold Hid; omega
  clear hp2 hf2 hc2 hbb HA1 HR1
  (try dsimp only)
  refine hK.out _ _ (HS.out _ hC2) (fun _ => trivial) ?_
  clear hK K
  (try simp only [Act.put, zz1, zz2, zz3, zz4, zz5, zz6])
  refine wR (rs := [7]) (by kernel_rfl) (by simp) ?_
  refine AllReadyB.c rfl (fun K hK => ?_) AllReadyB.n
  go_simp
  (try dsimp only)
  refine hK.out _ _ (HS.out _ hC2) (fun _ => trivial) ?_
  clear hK K
  (try simp only [Act.put, zz1, zz2, zz3, zz4, zz5, zz6])
  refine wR (rs := [8]) (by kernel_rfl) (by simp) ?_
  refine AllReadyB.c rfl (fun K hK => ?_) AllReadyB.n
  have yy0 : C2.cell? ⟨w.heap.size, 0, none⟩ = some (.int .i64 0) := (K22.out.cell 0).trans (by simp)
  have ff0 := K22.out.frozen 0
  have yy1 : C2.cell? ⟨w.heap.size, 1, none⟩ = some (.int .i64 0) := (K22.out.cell 1).trans (by simp)
  have ff1 := K22.out.frozen 1
  have yylt := K22.out.lt
  have hC12 : Chg [g, w.heap.size, w.heap.size + 1] wb ((C2.setCell ⟨w.heap.size, 0, none⟩ (.int .i64 t.d)).setCell ⟨w.heap.size, 1, none⟩ (.int .i64 t.i)) := ((hC2.set (by simp)).set (by simp))
  have KK12 : Hid (Blk ((C2.setCell ⟨w.heap.size, 0, none⟩ (.int .i64 t.d)).setCell ⟨w.heap.size, 1, none⟩ (.int .i64 t.i)) (w.heap.size) 32 #[.int .i64 t.d, .int .i64 t.i]) := ((K22.out.set_ 0 _).set_ 1 _)
  have K3212 : Hid (Blk ((C2.setCell ⟨w.heap.size, 0, none⟩ (.int .i64 t.d)).setCell ⟨w.heap.size, 1, none⟩ (.int .i64 t.i)) (w.heap.size + 1) 25 #[.int .i64 0, .int .i64 0, .int .i64 0, .int .i64 0, .int .i64 0, .slice none 0 0]) := ((K32.out.same (zz7 _ _ _ _ (by show w.heap.size + 1 ≠ w.heap.size; omega))).same (zz7 _ _ _ _ (by show w.heap.size + 1 ≠ w.heap.size; omega)))
  have hz12 : (((C2.setCell ⟨w.heap.size, 0, none⟩ (.int .i64 t.d)).setCell ⟨w.heap.size, 1, none⟩ (.int .i64 t.i))).heap.size = C2.heap.size := by simp [World.setCell]
  have hkA12 : Kept F6 C2 ((C2.setCell ⟨w.heap.size, 0, none⟩ (.int .i64 t.d)).setCell ⟨w.heap.size, 1, none⟩ (.int .i64 t.i)) := fun x hx => by rw [zz7 _ _ _ _ (by show x ≠ w.heap.size; have := HF6.out x hx; omega), zz7 _ _ _ _ (by show x ≠ w.heap.size; have := HF6.out x hx; omega)]
  have hkB12 : Kept Fb C2 ((C2.setCell ⟨w.heap.size, 0, none⟩ (.int .i64 t.d)).setCell ⟨w.heap.size, 1, none⟩ (.int .i64 t.i)) := fun x hx => by rw [zz7 _ _ _ _ (by show x ≠ w.heap.size; have := HFB.out x hx; omega), zz7 _ _ _ _ (by show x ≠ w.heap.size; have := HFB.out x hx; omega)]
  go_simp
  refine hK.out _ _ (HS.out _ hC12) (fun _ => trivial) ?_
  clear hK K
  (try simp only [Act.put, zz1, zz2, zz3, zz4, zz5, zz6])
  clear yy0 ff0 yy1 ff1 yylt
  obtain ⟨D2, hX⟩ : ∃ X, X = ((C2.setCell ⟨w.heap.size, 0, none⟩ (.int .i64 t.d)).setCell ⟨w.heap.size, 1, none⟩ (.int .i64 t.i)) := ⟨_, rfl⟩
  rw [← hX] at hC12 KK12 K3212 hz12 hkA12 hkB12 ⊢
  clear hX
  refine wR (rs := [9]) (by kernel_rfl) (by simp) ?_
  refine AllReadyB.c rfl (fun K hK => ?_) AllReadyB.n
  have yy0 : D2.cell? ⟨w.heap.size + 1, 0, none⟩ = some (.int .i64 0) := (K3212.out.cell 0).trans (by simp)
  have ff0 := K3212.out.frozen 0
  have yy1 : D2.cell? ⟨w.heap.size + 1, 1, none⟩ = some (.int .i64 0) := (K3212.out.cell 1).trans (by simp)
  have ff1 := K3212.out.frozen 1
  have yy2 : D2.cell? ⟨w.heap.size + 1, 2, none⟩ = some (.int .i64 0) := (K3212.out.cell 2).trans (by simp)
  have ff2 := K3212.out.frozen 2
  have yy3 : D2.cell? ⟨w.heap.size + 1, 3, none⟩ = some (.int .i64 0) := (K3212.out.cell 3).trans (by simp)
  have ff3 := K3212.out.frozen 3
  have yy4 : D2.cell? ⟨w.heap.size + 1, 4, none⟩ = some (.int .i64 0) := (K3212.out.cell 4).trans (by simp)
  have ff4 := K3212.out.frozen 4
  have yy5 : D2.cell? ⟨w.heap.size + 1, 5, none⟩ = some (.slice none 0 0) := (K3212.out.cell 5).trans (by simp)
  have ff5 := K3212.out.frozen 5
  have yylt := K3212.out.lt
  have hC13 : Chg [g, w.heap.size, w.heap.size + 1] wb ((((((D2.setCell ⟨w.heap.size + 1, 0, none⟩ (.int .i64 b.op)).setCell ⟨w.heap.size + 1, 1, none⟩ (.int .i64 b.ct)).setCell ⟨w.heap.size + 1, 2, none⟩ (.int .i64 b.n)).setCell ⟨w.heap.size + 1, 3, none⟩ (.int .i64 b.m)).setCell ⟨w.heap.size + 1, 4, none⟩ (.int .i64 b.va)).setCell ⟨w.heap.size + 1, 5, none⟩ (.slice qA b.ks.length qcap)) := ((((((hC12.set (by simp)).set (by simp)).set (by simp)).set (by simp)).set (by simp)).set (by simp))
  have KK13 : Hid (Blk ((((((D2.setCell ⟨w.heap.size + 1, 0, none⟩ (.int .i64 b.op)).setCell ⟨w.heap.size + 1, 1, none⟩ (.int .i64 b.ct)).setCell ⟨w.heap.size + 1, 2, none⟩ (.int .i64 b.n)).setCell ⟨w.heap.size + 1, 3, none⟩ (.int .i64 b.m)).setCell ⟨w.heap.size + 1, 4, none⟩ (.int .i64 b.va)).setCell ⟨w.heap.size + 1, 5, none⟩ (.slice qA b.ks.length qcap)) (w.heap.size + 1) 25 #[.int .i64 b.op, .int .i64 b.ct, .int .i64 b.n, .int .i64 b.m, .int .i64 b.va, .slice qA b.ks.length qcap]) := ((((((K3212.out.set_ 0 _).set_ 1 _).set_ 2 _).set_ 3 _).set_ 4 _).set_ 5 _)
  have KK1213 : Hid (Blk ((((((D2.setCell ⟨w.heap.size + 1, 0, none⟩ (.int .i64 b.op)).setCell ⟨w.heap.size + 1, 1, none⟩ (.int .i64 b.ct)).setCell ⟨w.heap.size + 1, 2, none⟩ (.int .i64 b.n)).setCell ⟨w.heap.size + 1, 3, none⟩ (.int .i64 b.m)).setCell ⟨w.heap.size + 1, 4, none⟩ (.int .i64 b.va)).setCell ⟨w.heap.size + 1, 5, none⟩ (.slice qA b.ks.length qcap)) (w.heap.size) 32 #[.int .i64 t.d, .int .i64 t.i]) := ((((((KK12.out.same (zz7 _ _ _ _ (by show w.heap.size ≠ w.heap.size + 1; omega))).same (zz7 _ _ _ _ (by show w.heap.size ≠ w.heap.size + 1; omega))).same (zz7 _ _ _ _ (by show w.heap.size ≠ w.heap.size + 1; omega))).same (zz7 _ _ _ _ (by show w.heap.size ≠ w.heap.size + 1; omega))).same (zz7 _ _ _ _ (by show w.heap.size ≠ w.heap.size + 1; omega))).same (zz7 _ _ _ _ (by show w.heap.size ≠ w.heap.size + 1; omega)))
  have hz13 : (((((((D2.setCell ⟨w.heap.size + 1, 0, none⟩ (.int .i64 b.op)).setCell ⟨w.heap.size + 1, 1, none⟩ (.int .i64 b.ct)).setCell ⟨w.heap.size + 1, 2, none⟩ (.int .i64 b.n)).setCell ⟨w.heap.size + 1, 3, none⟩ (.int .i64 b.m)).setCell ⟨w.heap.size + 1, 4, none⟩ (.int .i64 b.va)).setCell ⟨w.heap.size + 1, 5, none⟩ (.slice qA b.ks.length qcap))).heap.size = D2.heap.size := by simp [World.setCell]
  have hkA13 : Kept F6 D2 ((((((D2.setCell ⟨w.heap.size + 1, 0, none⟩ (.int .i64 b.op)).setCell ⟨w.heap.size + 1, 1, none⟩ (.int .i64 b.ct)).setCell ⟨w.heap.size + 1, 2, none⟩ (.int .i64 b.n)).setCell ⟨w.heap.size + 1, 3, none⟩ (.int .i64 b.m)).setCell ⟨w.heap.size + 1, 4, none⟩ (.int .i64 b.va)).setCell ⟨w.heap.size + 1, 5, none⟩ (.slice qA b.ks.length qcap)) := fun x hx => by rw [zz7 _ _ _ _ (by show x ≠ w.heap.size + 1; have := HF6.out x hx; omega), zz7 _ _ _ _ (by show x ≠ w.heap.size + 1; have := HF6.out x hx; omega), zz7 _ _ _ _ (by show x ≠ w.heap.size + 1; have := HF6.out x hx; omega), zz7 _ _ _ _ (by show x ≠ w.heap.size + 1; have := HF6.out x hx; omega), zz7 _ _ _ _ (by show x ≠ w.heap.size + 1; have := HF6.out x hx; omega), zz7 _ _ _ _ (by show x ≠ w.heap.size + 1; have := HF6.out x hx; omega)]
  have hkB13 : Kept Fb D2 ((((((D2.setCell ⟨w.heap.size + 1, 0, none⟩ (.int .i64 b.op)).setCell ⟨w.heap.size + 1, 1, none⟩ (.int .i64 b.ct)).setCell ⟨w.heap.size + 1, 2, none⟩ (.int .i64 b.n)).setCell ⟨w.heap.size + 1, 3, none⟩ (.int .i64 b.m)).setCell ⟨w.heap.size + 1, 4, none⟩ (.int .i64 b.va)).setCell ⟨w.heap.size + 1, 5, none⟩ (.slice qA b.ks.length qcap)) := fun x hx => by rw [zz7 _ _ _ _ (by show x ≠ w.heap.size + 1; have := HFB.out x hx; omega), zz7 _ _ _ _ (by show x ≠ w.heap.size + 1; have := HFB.out x hx; omega), zz7 _ _ _ _ (by show x ≠ w.heap.size + 1; have := HFB.out x hx; omega), zz7 _ _ _ _ (by show x ≠ w.heap.size + 1; have := HFB.out x hx; omega), zz7 _ _ _ _ (by show x ≠ w.heap.size + 1; have := HFB.out x hx; omega), zz7 _ _ _ _ (by show x ≠ w.heap.size + 1; have := HFB.out x hx; omega)]
  go_simp
  refine hK.out _ _ (HS.out _ hC13) (fun _ => trivial) ?_
  clear hK K
  (try simp only [Act.put, zz1, zz2, zz3, zz4, zz5, zz6])
  clear yy0 ff0 yy1 ff1 yy2 ff2 yy3 ff3 yy4 ff4 yy5 ff5 yylt
  obtain ⟨D3, hX⟩ : ∃ X, X = ((((((D2.setCell ⟨w.heap.size + 1, 0, none⟩ (.int .i64 b.op)).setCell ⟨w.heap.size + 1, 1, none⟩ (.int .i64 b.ct)).setCell ⟨w.heap.size + 1, 2, none⟩ (.int .i64 b.n)).setCell ⟨w.heap.size + 1, 3, none⟩ (.int .i64 b.m)).setCell ⟨w.heap.size + 1, 4, none⟩ (.int .i64 b.va)).setCell ⟨w.heap.size + 1, 5, none⟩ (.slice qA b.ks.length qcap)) := ⟨_, rfl⟩
  rw [← hX] at hC13 KK13 KK1213 hz13 hkA13 hkB13 ⊢
  clear hX
  refine wE (by kernel_rfl) ?_
  clear hS0 hT0
  have HFin : Hid (DrewWTPF w (.returned (.tuple #[v6, .agg #[.int .i64 t.d, .int .i64 t.i], .agg #[.int .i64 b.op, .int .i64 b.ct, .int .i64 b.n, .int .i64 b.m, .int .i64 b.va, .slice qA b.ks.length qcap]])) D3) := by
   have hz : D3.heap.size = C2.heap.size := by rw [hz13, hz12]
   refine ⟨ys, v6, F6, t, b, [.int .i64 b.op, .int .i64 b.ct, .int .i64 b.n, .int .i64 b.m, .int .i64 b.va, .slice qA b.ks.length qcap], Fb, rfl, HBb.out.trans (hC13.below (by intro x hx; simp at hx; omega) HBb.out.size), ArrDt.mono (ArrDt.mono HA2.out hkA12) hkA13, ?_, PR.mono _ _ _ hkB13 (PR.mono _ _ _ hkB12 HPB.out), ?_, HNB.out⟩
   ·intro x hx; rw [hz]; exact ⟨by have := (HF6.out x hx).1; omega, HU2.out x hx⟩
   ·intro x hx; rw [hz]; exact ⟨by have := (HFB.out x hx).1; omega, HUB.out x hx⟩
  clear hkA12 hkA13 hkB12 hkB13 hC12 hC13 hC2 hC1 hC0
  go_wp2
  refine bodyPost_ret (zAH rfl _ _ (w.heap.size) (w.heap.size + 1) 32 25 #[.int .i64 t.d, .int .i64 t.i] #[.int .i64 b.op, .int .i64 b.ct, .int .i64 b.n, .int .i64 b.m, .int .i64 b.va, .slice qA b.ks.length qcap] (0, 0) (0, 0) _ _ rfl KK1213.out Try.underlying32 rfl rfl rfl KK13.out Try.underlying25 rfl rfl) rfl ?_
  exact HFin.out
set_option maxHeartbeats 6400000 in
theorem spec_DrawPatternVars (bs : List Int) (w : World) (v : Value) (F : List Nat) (hx : Arr w (ByR w) bs v F) (hf : Under w.heap.size F) :
  Calls Try.prog 36 #[v] w (DrewWTPF w) := by
 have hB1 : Below w.heap.size w ((w.alloc (.cells #[.int .i64 0, .int .i64 0] 32)).alloc (.cells #[.int .i64 0, .int .i64 0, .int .i64 0, .int .i64 0, .int .i64 0, .slice none 0 0] 25)) := ((zy2 _ _).alloc (zz8 _) _).alloc (by simp) _
 have K1 : Hid (Blk ((w.alloc (.cells #[.int .i64 0, .int .i64 0] 32)).alloc (.cells #[.int .i64 0, .int .i64 0, .int .i64 0, .int .i64 0, .int .i64 0, .slice none 0 0] 25)) w.heap.size 32 #[.int .i64 0, .int .i64 0]) := (Blk.new w _ _).same (Below.heap_alloc _ _ _ (by simp))
 have J1 : Hid (Blk ((w.alloc (.cells #[.int .i64 0, .int .i64 0] 32)).alloc (.cells #[.int .i64 0, .int .i64 0, .int .i64 0, .int .i64 0, .int .i64 0, .slice none 0 0] 25)) (w.heap.size + 1) 25 #[.int .i64 0, .int .i64 0, .int .i64 0, .int .i64 0, .int .i64 0, .slice none 0 0]) := zA8 w _ 25 _
 have HX : Hid (Arr ((w.alloc (.cells #[.int .i64 0, .int .i64 0] 32)).alloc (.cells #[.int .i64 0, .int .i64 0, .int .i64 0, .int .i64 0, .int .i64 0, .slice none 0 0] 25)) (ByR ((w.alloc (.cells #[.int .i64 0, .int .i64 0] 32)).alloc (.cells #[.int .i64 0, .int .i64 0, .int .i64 0, .int .i64 0, .int .i64 0, .slice none 0 0] 25))) bs v F) := ArrBy.mono hx (.of_below hB1 hf)
 have HU : Hid (Under (((w.alloc (.cells #[.int .i64 0, .int .i64 0] 32)).alloc (.cells #[.int .i64 0, .int .i64 0, .int .i64 0, .int .i64 0, .int .i64 0, .slice none 0 0] 25))).heap.size F) := hf.mono hB1.size
 have hs1 : (((w.alloc (.cells #[.int .i64 0, .int .i64 0] 32)).alloc (.cells #[.int .i64 0, .int .i64 0, .int .i64 0, .int .i64 0, .int .i64 0, .slice none 0 0] 25))).heap.size = w.heap.size + 2 := by simp
 clear hx hf
 go_enter Try.func36, Try.ntmps36
 go_wp2_with fail
 obtain ⟨w1, hw1⟩ : ∃ X, X = ((w.alloc (.cells #[.int .i64 0, .int .i64 0] 32)).alloc (.cells #[.int .i64 0, .int .i64 0, .int .i64 0, .int .i64 0, .int .i64 0, .slice none 0 0] 25)) := ⟨_, rfl⟩
 rw [← hw1] at hB1 K1 J1 HX HU hs1 ⊢
 clear hw1
 refine (spec_DrawPatternValidF bs w1 v F HX.out HU.out).mono ?_
 rintro e w3 ⟨xs, v4, FW, t, a, csa, Fa, rfl, hb3, hx3, hfx3, hp3, hf3, hn3⟩
 obtain ⟨kva, rfl, haa⟩ := (zA4 _ _ _).1 hp3
 obtain ⟨pA, pcap, rfl, -, -⟩ := haa.form
 have K3 : Hid (Blk w3 w.heap.size 32 #[.int .i64 0, .int .i64 0]) := K1.out.same (hb3.block _ (by omega))
 have J3 : Hid (Blk w3 (w.heap.size + 1) 25 #[.int .i64 0, .int .i64 0, .int .i64 0, .int .i64 0, .int .i64 0, .slice none 0 0]) := J1.out.same (hb3.block _ (by omega))
 have HP3 := jj hp3
 have HX3 := jj hx3
 have hz3 := hb3.size
 have HF3 : Hid (∀ x ∈ Fa, w.heap.size + 1 < x ∧ x < w3.heap.size) := fun x hx => ⟨by have := (hf3 x hx).1; omega, (hf3 x hx).2⟩
 have HG3 : Hid (∀ x ∈ FW, w.heap.size + 1 < x ∧ x < w3.heap.size) := fun x hx => ⟨by have := (hfx3 x hx).1; omega, (hfx3 x hx).2⟩
 have HB3 : Hid (Below w.heap.size w w3) := hB1.trans (hb3.mono hB1.size)
 have HN := jj hn3
 have r0 : w3.cell? ⟨w.heap.size, 0, none⟩ = some (.int .i64 0) := (K3.out.cell 0).trans (by simp)
 have rf0 := K3.out.frozen 0
 have r1 : w3.cell? ⟨w.heap.size, 1, none⟩ = some (.int .i64 0) := (K3.out.cell 1).trans (by simp)
 have rf1 := K3.out.frozen 1
 have rlt := K3.out.lt
 have s0 : w3.cell? ⟨w.heap.size + 1, 0, none⟩ = some (.int .i64 0) := (J3.out.cell 0).trans (by simp)
 have sf0 := J3.out.frozen 0
 have s1 : w3.cell? ⟨w.heap.size + 1, 1, none⟩ = some (.int .i64 0) := (J3.out.cell 1).trans (by simp)
 have sf1 := J3.out.frozen 1
 have s2 : w3.cell? ⟨w.heap.size + 1, 2, none⟩ = some (.int .i64 0) := (J3.out.cell 2).trans (by simp)
 have sf2 := J3.out.frozen 2
 have s3 : w3.cell? ⟨w.heap.size + 1, 3, none⟩ = some (.int .i64 0) := (J3.out.cell 3).trans (by simp)
 have sf3 := J3.out.frozen 3
 have s4 : w3.cell? ⟨w.heap.size + 1, 4, none⟩ = some (.int .i64 0) := (J3.out.cell 4).trans (by simp)
 have sf4 := J3.out.frozen 4
 have s5 : w3.cell? ⟨w.heap.size + 1, 5, none⟩ = some (.slice none 0 0) := (J3.out.cell 5).trans (by simp)
 have sf5 := J3.out.frozen 5
 have slt := J3.out.lt
 clear hb3 hp3 hf3 haa hx3 hfx3 hn3
 go_wp2
 clear r0 rf0 r1 rf1 rlt s0 sf0 s1 sf1 s2 sf2 s3 sf3 s4 sf4 s5 sf5 slt
 have K7 : Blk ((((((((w3.setCell ⟨w.heap.size, 0, none⟩ (.int .i64 t.d)).setCell ⟨w.heap.size, 1, none⟩ (.int .i64 t.i)).setCell ⟨w.heap.size + 1, 0, none⟩ (.int .i64 a.op)).setCell ⟨w.heap.size + 1, 1, none⟩ (.int .i64 a.ct)).setCell ⟨w.heap.size + 1, 2, none⟩ (.int .i64 a.n)).setCell ⟨w.heap.size + 1, 3, none⟩ (.int .i64 a.m)).setCell ⟨w.heap.size + 1, 4, none⟩ (.int .i64 a.va)).setCell ⟨w.heap.size + 1, 5, none⟩ (.slice pA a.ks.length pcap)) w.heap.size 32 #[.int .i64 t.d, .int .i64 t.i] := (((((((((((((K3.out.set_ 0 _).set_ 1 _).same (zz7 _ _ _ _ (by show w.heap.size ≠ w.heap.size + 1; omega)))).same (zz7 _ _ _ _ (by show w.heap.size ≠ w.heap.size + 1; omega)))).same (zz7 _ _ _ _ (by show w.heap.size ≠ w.heap.size + 1; omega)))).same (zz7 _ _ _ _ (by show w.heap.size ≠ w.heap.size + 1; omega)))).same (zz7 _ _ _ _ (by show w.heap.size ≠ w.heap.size + 1; omega)))).same (zz7 _ _ _ _ (by show w.heap.size ≠ w.heap.size + 1; omega)))
 have J6 : Blk ((w3.setCell ⟨w.heap.size, 0, none⟩ (.int .i64 t.d)).setCell ⟨w.heap.size, 1, none⟩ (.int .i64 t.i)) (w.heap.size + 1) 25 #[.int .i64 0, .int .i64 0, .int .i64 0, .int .i64 0, .int .i64 0, .slice none 0 0] := ((J3.out.same (zz7 _ _ _ _ (by show w.heap.size + 1 ≠ w.heap.size; omega))).same (zz7 _ _ _ _ (by show w.heap.size + 1 ≠ w.heap.size; omega)))
 have J7 : Blk ((((((((w3.setCell ⟨w.heap.size, 0, none⟩ (.int .i64 t.d)).setCell ⟨w.heap.size, 1, none⟩ (.int .i64 t.i)).setCell ⟨w.heap.size + 1, 0, none⟩ (.int .i64 a.op)).setCell ⟨w.heap.size + 1, 1, none⟩ (.int .i64 a.ct)).setCell ⟨w.heap.size + 1, 2, none⟩ (.int .i64 a.n)).setCell ⟨w.heap.size + 1, 3, none⟩ (.int .i64 a.m)).setCell ⟨w.heap.size + 1, 4, none⟩ (.int .i64 a.va)).setCell ⟨w.heap.size + 1, 5, none⟩ (.slice pA a.ks.length pcap)) (w.heap.size + 1) 25 #[.int .i64 a.op, .int .i64 a.ct, .int .i64 a.n, .int .i64 a.m, .int .i64 a.va, .slice pA a.ks.length pcap] := J6.six _ _ _ _ _ _
 refine bodyPost_ret (zAH rfl _ _ (w.heap.size) (w.heap.size + 1) 32 25 #[.int .i64 t.d, .int .i64 t.i] #[.int .i64 a.op, .int .i64 a.ct, .int .i64 a.n, .int .i64 a.m, .int .i64 a.va, .slice pA a.ks.length pcap] (0, 0) (0, 0) _ _ rfl K7 Try.underlying32 rfl rfl rfl J7 Try.underlying25 rfl rfl) rfl ?_
 have hk2 : ∀ (G : List Nat), (∀ x ∈ G, w.heap.size + 1 < x ∧ x < w3.heap.size) → Kept G w3 ((((((((w3.setCell ⟨w.heap.size, 0, none⟩ (.int .i64 t.d)).setCell ⟨w.heap.size, 1, none⟩ (.int .i64 t.i)).setCell ⟨w.heap.size + 1, 0, none⟩ (.int .i64 a.op)).setCell ⟨w.heap.size + 1, 1, none⟩ (.int .i64 a.ct)).setCell ⟨w.heap.size + 1, 2, none⟩ (.int .i64 a.n)).setCell ⟨w.heap.size + 1, 3, none⟩ (.int .i64 a.m)).setCell ⟨w.heap.size + 1, 4, none⟩ (.int .i64 a.va)).setCell ⟨w.heap.size + 1, 5, none⟩ (.slice pA a.ks.length pcap)) := fun G hG x hx => by
  have h := (hG x hx).1
  rw [zz7 _ _ _ _ (by show x ≠ w.heap.size + 1; omega), zz7 _ _ _ _ (by show x ≠ w.heap.size + 1; omega), zz7 _ _ _ _ (by show x ≠ w.heap.size + 1; omega), zz7 _ _ _ _ (by show x ≠ w.heap.size + 1; omega), zz7 _ _ _ _ (by show x ≠ w.heap.size + 1; omega), zz7 _ _ _ _ (by show x ≠ w.heap.size + 1; omega), zz7 _ _ _ _ (by show x ≠ w.heap.size; omega), zz7 _ _ _ _ (by show x ≠ w.heap.size; omega)]
 have hsz : (((((((((w3.setCell ⟨w.heap.size, 0, none⟩ (.int .i64 t.d)).setCell ⟨w.heap.size, 1, none⟩ (.int .i64 t.i)).setCell ⟨w.heap.size + 1, 0, none⟩ (.int .i64 a.op)).setCell ⟨w.heap.size + 1, 1, none⟩ (.int .i64 a.ct)).setCell ⟨w.heap.size + 1, 2, none⟩ (.int .i64 a.n)).setCell ⟨w.heap.size + 1, 3, none⟩ (.int .i64 a.m)).setCell ⟨w.heap.size + 1, 4, none⟩ (.int .i64 a.va)).setCell ⟨w.heap.size + 1, 5, none⟩ (.slice pA a.ks.length pcap))).heap.size = w3.heap.size := by simp [World.setCell]
 refine ⟨xs, v4, FW, t, a, [.int .i64 a.op, .int .i64 a.ct, .int .i64 a.n, .int .i64 a.m, .int .i64 a.va, .slice pA a.ks.length pcap], Fa, rfl, ((((((((HB3.out.setCell (zz8 _) _).setCell (zz8 _) _).setCell (Nat.le_succ _) _).setCell (Nat.le_succ _) _).setCell (Nat.le_succ _) _).setCell (Nat.le_succ _) _).setCell (Nat.le_succ _) _).setCell (Nat.le_succ _) _), ArrDt.mono HX3.out (hk2 FW HG3.out), fun x hx => ⟨by have := (HG3.out x hx).1; omega, by rw [hsz]; exact (HG3.out x hx).2⟩, PR.mono _ _ _ (hk2 Fa HF3.out) HP3.out, fun x hx => ⟨by have := (HF3.out x hx).1; omega, by rw [hsz]; exact (HF3.out x hx).2⟩, HN.out⟩
def onlyB (p : P) (c n v : Bool) (k : Int) : Bool := (c || p.ct == 0) && ((n || (p.n == 0 && p.m == 0)) && ((v || p.va == 0) && ((p.ks.length : Int) == k)))
theorem impl_only (p : P) (A4 : Option Addr) (cap4 : Nat) (c n v : Bool) (k : Int) (w : World) :
  Calls Try.prog 170 #[.agg #[.int .i64 p.op, .int .i64 p.ct, .int .i64 p.n, .int .i64 p.m, .int .i64 p.va, .slice A4 p.ks.length cap4], .bool c, .bool n, .bool v, .int .i64 k] w fun e w' => e = .returned (.bool (onlyB p c n v k)) ∧ Below w.heap.size w w' := by
 have HB : Hid (Below w.heap.size w (w.alloc (.cells #[.int .i64 p.op, .int .i64 p.ct, .int .i64 p.n, .int .i64 p.m, .int .i64 p.va, .slice A4 p.ks.length cap4] 25))) := (zy2 _ _).alloc (zz8 _) _
 cases c with
 |false =>
  cases n with
  |false =>
   cases v with
   |false =>
    cases q1 : (p.ct == 0) with
    |false =>
     have hf : Hid (onlyB p false false false k = false) := by unfold Hid onlyB; rw [q1]; rfl
     go_enter Try.func170, Try.ntmps170
     go_wp2
     go_ret
     exact ⟨zA0 hf.out.symm, HB.out⟩
    |true =>
     cases q2 : (p.n == 0) with
     |false =>
      have hf : Hid (onlyB p false false false k = false) := by unfold Hid onlyB; rw [q1, q2]; rfl
      go_enter Try.func170, Try.ntmps170
      go_wp2
      go_ret
      exact ⟨zA0 hf.out.symm, HB.out⟩
     |true =>
      cases q3 : (p.m == 0) with
      |false =>
       have hf : Hid (onlyB p false false false k = false) := by unfold Hid onlyB; rw [q1, q2, q3]; rfl
       go_enter Try.func170, Try.ntmps170
       go_wp2
       go_ret
       exact ⟨zA0 hf.out.symm, HB.out⟩
      |true =>
       cases q4 : (p.va == 0) with
       |false =>
        have hf : Hid (onlyB p false false false k = false) := by unfold Hid onlyB; rw [q1, q2, q3, q4]; rfl
        go_enter Try.func170, Try.ntmps170
        go_wp2
        go_ret
        exact ⟨zA0 hf.out.symm, HB.out⟩
       |true =>
        have hf : Hid (onlyB p false false false k = ((p.ks.length : Int) == k)) := by unfold Hid onlyB; rw [q1, q2, q3, q4]; rfl
        go_enter Try.func170, Try.ntmps170
        go_wp2
        go_ret
        exact ⟨zA0 hf.out.symm, HB.out⟩
   |true =>
    cases q1 : (p.ct == 0) with
    |false =>
     have hf : Hid (onlyB p false false true k = false) := by unfold Hid onlyB; rw [q1]; rfl
     go_enter Try.func170, Try.ntmps170
     go_wp2
     go_ret
     exact ⟨zA0 hf.out.symm, HB.out⟩
    |true =>
     cases q2 : (p.n == 0) with
     |false =>
      have hf : Hid (onlyB p false false true k = false) := by unfold Hid onlyB; rw [q1, q2]; rfl
      go_enter Try.func170, Try.ntmps170
      go_wp2
      go_ret
      exact ⟨zA0 hf.out.symm, HB.out⟩
     |true =>
      cases q3 : (p.m == 0) with
      |false =>
       have hf : Hid (onlyB p false false true k = false) := by unfold Hid onlyB; rw [q1, q2, q3]; rfl
       go_enter Try.func170, Try.ntmps170
       go_wp2
       go_ret
       exact ⟨zA0 hf.out.symm, HB.out⟩
      |true =>
       have hf : Hid (onlyB p false false true k = ((p.ks.length : Int) == k)) := by unfold Hid onlyB; rw [q1, q2, q3]; rfl
       go_enter Try.func170, Try.ntmps170
       go_wp2
       go_ret
       exact ⟨zA0 hf.out.symm, HB.out⟩
  |true =>
   cases v with
   |false =>
    cases q1 : (p.ct == 0) with
    |false =>
     have hf : Hid (onlyB p false true false k = false) := by unfold Hid onlyB; rw [q1]; rfl
     go_enter Try.func170, Try.ntmps170
     go_wp2
     go_ret
     exact ⟨zA0 hf.out.symm, HB.out⟩
    |true =>
     cases q4 : (p.va == 0) with
     |false =>
      have hf : Hid (onlyB p false true false k = false) := by unfold Hid onlyB; rw [q1, q4]; rfl
      go_enter Try.func170, Try.ntmps170
      go_wp2
      go_ret
      exact ⟨zA0 hf.out.symm, HB.out⟩
     |true =>
      have hf : Hid (onlyB p false true false k = ((p.ks.length : Int) == k)) := by unfold Hid onlyB; rw [q1, q4]; rfl
      go_enter Try.func170, Try.ntmps170
      go_wp2
      go_ret
      exact ⟨zA0 hf.out.symm, HB.out⟩
   |true =>
    cases q1 : (p.ct == 0) with
    |false =>
     have hf : Hid (onlyB p false true true k = false) := by unfold Hid onlyB; rw [q1]; rfl
     go_enter Try.func170, Try.ntmps170
     go_wp2
     go_ret
     exact ⟨zA0 hf.out.symm, HB.out⟩
    |true =>
     have hf : Hid (onlyB p false true true k = ((p.ks.length : Int) == k)) := by unfold Hid onlyB; rw [q1]; rfl
     go_enter Try.func170, Try.ntmps170
     go_wp2
     go_ret
     exact ⟨zA0 hf.out.symm, HB.out⟩
 |true =>
  cases n with
  |false =>
   cases v with
   |false =>
    cases q2 : (p.n == 0) with
    |false =>
     have hf : Hid (onlyB p true false false k = false) := by unfold Hid onlyB; rw [q2]; rfl
     go_enter Try.func170, Try.ntmps170
     go_wp2
     go_ret
     exact ⟨zA0 hf.out.symm, HB.out⟩
    |true =>
     cases q3 : (p.m == 0) with
     |false =>
      have hf : Hid (onlyB p true false false k = false) := by unfold Hid onlyB; rw [q2, q3]; rfl
      go_enter Try.func170, Try.ntmps170
      go_wp2
      go_ret
      exact ⟨zA0 hf.out.symm, HB.out⟩
     |true =>
      cases q4 : (p.va == 0) with
      |false =>
       have hf : Hid (onlyB p true false false k = false) := by unfold Hid onlyB; rw [q2, q3, q4]; rfl
       go_enter Try.func170, Try.ntmps170
       go_wp2
       go_ret
       exact ⟨zA0 hf.out.symm, HB.out⟩
      |true =>
       have hf : Hid (onlyB p true false false k = ((p.ks.length : Int) == k)) := by unfold Hid onlyB; rw [q2, q3, q4]; rfl
       go_enter Try.func170, Try.ntmps170
       go_wp2
       go_ret
       exact ⟨zA0 hf.out.symm, HB.out⟩
   |true =>
    cases q2 : (p.n == 0) with
    |false =>
     have hf : Hid (onlyB p true false true k = false) := by unfold Hid onlyB; rw [q2]; rfl
     go_enter Try.func170, Try.ntmps170
     go_wp2
     go_ret
     exact ⟨zA0 hf.out.symm, HB.out⟩
    |true =>
     cases q3 : (p.m == 0) with
     |false =>
      have hf : Hid (onlyB p true false true k = false) := by unfold Hid onlyB; rw [q2, q3]; rfl
      go_enter Try.func170, Try.ntmps170
      go_wp2
      go_ret
      exact ⟨zA0 hf.out.symm, HB.out⟩
     |true =>
      have hf : Hid (onlyB p true false true k = ((p.ks.length : Int) == k)) := by unfold Hid onlyB; rw [q2, q3]; rfl
      go_enter Try.func170, Try.ntmps170
      go_wp2
      go_ret
      exact ⟨zA0 hf.out.symm, HB.out⟩
  |true =>
   cases v with
   |false =>
    cases q4 : (p.va == 0) with
    |false =>
     have hf : Hid (onlyB p true true false k = false) := by unfold Hid onlyB; rw [q4]; rfl
     go_enter Try.func170, Try.ntmps170
     go_wp2
     go_ret
     exact ⟨zA0 hf.out.symm, HB.out⟩
    |true =>
     have hf : Hid (onlyB p true true false k = ((p.ks.length : Int) == k)) := by unfold Hid onlyB; rw [q4]; rfl
     go_enter Try.func170, Try.ntmps170
     go_wp2
     go_ret
     exact ⟨zA0 hf.out.symm, HB.out⟩
   |true =>
    have hf : Hid (onlyB p true true true k = ((p.ks.length : Int) == k)) := by unfold Hid onlyB; rfl
    go_enter Try.func170, Try.ntmps170
    go_wp2
    go_ret
    exact ⟨zA0 hf.out.symm, HB.out⟩
theorem impl_isVar (n : Int) (w : World) : Calls Try.prog 171 #[.int .i64 n] w fun e w' => e = .returned (.bool (withinB n 0 5)) ∧ w' = w := by
 go_enter Try.func171, Try.ntmps171
 go_wp2_with fail
 refine (zAJ n 0 5 w).mono ?_
 rintro e w' ⟨rfl, hw'⟩
 generalize hq : withinB n 0 5 = q
 have HQ := jj hq
 clear hq
 go_wp2
 go_ret
 exact ⟨zA0 HQ.out.symm, hw'.symm⟩
theorem arr_tys1 {w : World} {g : Nat} {T : TypeId} {t : Ty} (h : Blk w g T #[.int .i64 t.d, .int .i64 t.i]) : Arr w (TyR w) [t] (.slice (some ⟨g, 0, none⟩) 1 1) [g] :=
 ⟨_, 1, rfl, zz8 _, by simp [maxLen], .inr ⟨g, 0, [.int .i64 t.d, .int .i64 t.i], [], rfl, fun j u hj => by rw [Nat.zero_add, h.cell]; simpa using hj, ⟨[.int .i64 t.d, .int .i64 t.i], [], [], [], rfl, rfl, ⟨rfl, rfl⟩, rfl, rfl⟩, rfl⟩⟩
theorem arr_tys2 {w : World} {g : Nat} {T : TypeId} {t : Ty} (h : Blk w g T #[.int .i64 t.d, .int .i64 t.i, .int .i64 t.d, .int .i64 t.i]) : Arr w (TyR w) [t, t] (.slice (some ⟨g, 0, none⟩) 2 2) [g] :=
 ⟨_, 2, rfl, zz8 _, by simp [maxLen], .inr ⟨g, 0, [.int .i64 t.d, .int .i64 t.i, .int .i64 t.d, .int .i64 t.i], [], rfl, fun j u hj => by rw [Nat.zero_add, h.cell]; simpa using hj, ⟨[.int .i64 t.d, .int .i64 t.i], [.int .i64 t.d, .int .i64 t.i], [], [], rfl, rfl, ⟨rfl, rfl⟩, ⟨[.int .i64 t.d, .int .i64 t.i], [], [], [], rfl, rfl, ⟨rfl, rfl⟩, rfl, rfl⟩⟩, rfl⟩⟩
theorem node_len {xs : List Dt} {t : Ty} {p : P} (h : ¬ p.op = 4) : (typesP xs t p).length = kidsN p.op := by rw [zB6 h, repTo_len]
theorem nodeB_1 {xs : List Dt} {t : Ty} {p : P} (h : p.op = 1) : nodeB xs t p = (onlyB p false false false 0) := by
 unfold nodeB ownB namedB kindB onlyB
 rw [node_len (by omega), h]
 unfold kidsN
 rw [Bool.eq_iff_iff]
 simp [zAE] <;> first | omega | (constructor <;> intro h <;> (try simp_all) <;> (try omega))
theorem nodeB_2 {xs : List Dt} {t : Ty} {p : P} (h : p.op = 2) : nodeB xs t p = (onlyB p false false true 0 && withinB p.va 0 5) := by
 unfold nodeB ownB namedB kindB onlyB
 rw [node_len (by omega), h]
 unfold kidsN
 rw [Bool.eq_iff_iff]
 simp [zAE] <;> first | omega | (constructor <;> intro h <;> (try simp_all) <;> (try omega))
theorem nodeB_3 {xs : List Dt} {t : Ty} {p : P} (h : p.op = 3) : nodeB xs t p = (t.d == -1 && (onlyB p false true false 0 && (decide (0 ≤ p.n) && (decide (p.n ≤ p.m) && decide (p.m ≤ 9))))) := by
 unfold nodeB ownB namedB kindB onlyB
 rw [node_len (by omega), h]
 unfold kidsN
 rw [Bool.eq_iff_iff]
 simp [zAE] <;> first | omega | (constructor <;> intro h <;> (try simp_all) <;> (try omega))
theorem nodeB_5 {xs : List Dt} {t : Ty} {p : P} (h : p.op = 5) : nodeB xs t p = (onlyB p false false false 2) := by
 unfold nodeB ownB namedB kindB onlyB
 rw [node_len (by omega), h]
 unfold kidsN
 rw [Bool.eq_iff_iff]
 simp [zAE] <;> first | omega | (constructor <;> intro h <;> (try simp_all) <;> (try omega))
theorem nodeB_6 {xs : List Dt} {t : Ty} {p : P} (h : p.op = 6) : nodeB xs t p = (onlyB p false false true 1 && withinB p.va 0 5) := by
 unfold nodeB ownB namedB kindB onlyB
 rw [node_len (by omega), h]
 unfold kidsN
 rw [Bool.eq_iff_iff]
 simp [zAE] <;> first | omega | (constructor <;> intro h <;> (try simp_all) <;> (try omega))
theorem nodeB_4 {xs : List Dt} {t : Ty} {p : P} (h : p.op = 4) : nodeB xs t p = (hasB (ctorsL xs t) p.ct && onlyB p true false false ((argsOf xs t p.ct).length : Nat)) := by
 unfold nodeB ownB namedB kindB onlyB typesP
 rw [h]
 rw [Bool.eq_iff_iff]
 simp <;> first | omega | (constructor <;> intro h <;> (try simp_all) <;> (try omega))
theorem nodeB_no {xs : List Dt} {t : Ty} {p : P} (h1 : ¬ p.op = 1) (h2 : ¬ p.op = 2) (h3 : ¬ p.op = 3) (h4 : ¬ p.op = 4) (h5 : ¬ p.op = 5) (h6 : ¬ p.op = 6) : nodeB xs t p = false := by
 unfold nodeB ownB kindB
 simp [h1, h2, h3, h4, h5, h6]
end Go.Proofs.Ytilndhmegaccmaa
