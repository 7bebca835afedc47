/-
  Lemmas and contracts of functions: What ParseWorld of the reference gives, in plain Lean. Conditions: none. Worlds that a call has copied: every slice is the call's own. Conditions: none. append of a whole slice that came in, with what its elements lead to. Conditions: none. l1Copy of the reference: a deep copy of a world. Conditions: no list of it is longer than 100. slices.ContainsFunc over types, with the closure of values; slices.Clone over values. Conditions: the world is valid. l1Slot, l1Depth, l1Most of the reference: depths by a table. Conditions: the world is valid, the entries are small. depths.of and depths.ofCtor of the program. Conditions: the world is valid, the entries are small. l1Table of the reference. Conditions: the world is valid. depthsOf of the program. Conditions: the world is valid. LeastDepth and Inhabited of both. Conditions: none.
-/
import Derived.Test.YtilndhmegaccmaaKAD
import Derived.Test.YtilndhmegaccmaaChecked
import Derived.Test.YtilndhmegaccmaaKAC
import Derived.Deep.RegionWith
import Derived.Lib.SliceRun
import Derived.Test.YtilndhmegaccmaaKAB
import Derived.Deep.QuietTactic
import Derived.BigQuiet
import Derived.WalkLawsBesides
import Derived.Deep.RegionHeld3
import Derived.Laws.OwnMore
import Derived.Deep.LoopGhost

set_option linter.unusedVariables false
set_option linter.unusedSimpArgs false

namespace Go.Proofs.Ytilndhmegaccmaa
open Go.RowKit

def splitS : List ByteArray → Option (List (ByteArray × ByteArray))
  | [] => some []
  | l :: ls => match cutS 61 l with
    | [a, b] => match splitS ls with
      | some r => some ((a, b) :: r)
      | none => none
    | _ => none
def pdt (names : List ByteArray) (p : ByteArray × ByteArray) : Dt := ⟨p.1, ((cutS 124 p.2).take 5).map (pkt names)⟩
def buildS (r : List (ByteArray × ByteArray)) : List Dt := r.map (pdt (r.map Prod.fst))
def linesT (text : ByteArray) : List ByteArray := if text.size = 0 then [] else (cutS 59 text).take 5
def parseS (text : ByteArray) : Option (List Dt) := match splitS (linesT text) with
  | some r => some (buildS r)
  | none => none
theorem splitGo_eq : ∀ (l : List (List UInt8)), splitGo l = match splitS (l.map bs) with | some r => some (r.map fun p => (tl p.1, tl p.2)) | none => none
  | [] => rfl
  | x :: l => by
    have ih := splitGo_eq l
    have e : cutS 61 (bs x) = (cutL 61 x).map bs := rfl
    rw [List.map_cons, splitS, splitGo, e, ih]
    match h : cutL 61 x with
    | [] => rfl
    | [_] => rfl
    | [a, b] =>
      simp only [List.map_cons, List.map_nil]
      cases splitS (l.map bs) <;> rfl
    | _ :: _ :: _ :: _ => rfl
theorem parseS_eq (text : ByteArray) : parseGo (tl text) = parseS text := by
  unfold parseGo parseS linesT
  by_cases h0 : text.size = 0
  · have ht : tl text = [] := List.eq_nil_of_length_eq_zero (by rw [tl_len]; exact h0)
    rw [if_pos ht, if_pos h0]; rfl
  · have ht : ¬ tl text = [] := fun e => h0 (by rw [← tl_len, e]; rfl)
    rw [if_neg ht, if_neg h0, splitGo_eq]
    have e : ((cutL 59 (tl text)).take 5).map bs = (cutS 59 text).take 5 := by unfold cutS; rw [List.map_take]
    rw [e]
    cases splitS ((cutS 59 text).take 5) with
    | none => rfl
    | some r =>
      show some _ = some _
      congr 1
      unfold buildS
      rw [List.map_map, List.map_map]
      refine List.map_congr_left fun p _ => ?_
      show parseDt (List.map (Prod.fst ∘ fun p => (tl p.1, tl p.2)) r) (tl p.1) (tl p.2) = pdt (r.map Prod.fst) p
      unfold parseDt pdt
      rw [bs_tl]
      congr 1
      unfold cutS
      rw [← List.map_take, List.map_map]
      refine List.map_congr_left fun x _ => ?_
      show parseKt _ x = parseKt _ (tl (bs x))
      rw [tl_bs, List.map_map]
      rfl
/-- the first lines are split into ps, the others are left -/
def splitAfter (ps : List (ByteArray × ByteArray)) (ls : List ByteArray) : Option (List (ByteArray × ByteArray)) := match splitS ls with
  | some r => some (ps ++ r)
  | none => none
theorem splitAfter_nil (ls : List ByteArray) : splitAfter [] ls = splitS ls := by unfold splitAfter; cases splitS ls <;> rfl
theorem splitAfter_bad {ps : List (ByteArray × ByteArray)} {ls : List ByteArray} {i : Nat} (hi : i < ls.length) (h : (cutS 61 ls[i]).length ≠ 2) : splitAfter ps (ls.drop i) = none := by
  unfold splitAfter
  rw [List.drop_eq_getElem_cons hi, splitS]
  match h' : cutS 61 ls[i], h with
  | [], _ => rfl
  | [_], _ => rfl
  | [_, _], h => simp at h
  | _ :: _ :: _ :: _, _ => rfl
theorem splitAfter_good {ps : List (ByteArray × ByteArray)} {ls : List ByteArray} {i : Nat} (hi : i < ls.length) {a b : ByteArray} (h : cutS 61 ls[i] = [a, b]) : splitAfter ps (ls.drop i) = splitAfter (ps ++ [(a, b)]) (ls.drop (i + 1)) := by
  unfold splitAfter
  rw [List.drop_eq_getElem_cons hi, splitS, h]
  cases splitS (ls.drop (i + 1)) with
  | none => rfl
  | some r => show some (ps ++ ((a, b) :: r)) = some ((ps ++ [(a, b)]) ++ r); rw [List.append_assoc]; rfl
theorem splitAfter_end {ps : List (ByteArray × ByteArray)} {ls : List ByteArray} {i : Nat} (h : ls.length ≤ i) : splitAfter ps (ls.drop i) = some ps := by
  unfold splitAfter
  rw [List.drop_of_length_le h]
  show some (ps ++ []) = _
  rw [List.append_nil]
theorem linesT_len (text : ByteArray) : (linesT text).length ≤ 5 := by
  unfold linesT
  split
  · simp
  · rw [List.length_take]; omega
theorem two_of {l : List ByteArray} (h : l.length = 2) : ∃ a b, l = [a, b] := by
  match l, h with
  | [a, b], _ => exact ⟨a, b, rfl⟩
def namesOf (ps : List (ByteArray × ByteArray)) : List ByteArray := ps.map Prod.fst
theorem namesOf_len (ps : List (ByteArray × ByteArray)) : (namesOf ps).length = ps.length := List.length_map _
theorem namesOf_snoc (ps : List (ByteArray × ByteArray)) (p : ByteArray × ByteArray) : namesOf (ps ++ [p]) = namesOf ps ++ [p.1] := by unfold namesOf; rw [List.map_append]; rfl
theorem namesOf_get (ps : List (ByteArray × ByteArray)) (i : Nat) (h : i < ps.length) : (namesOf ps)[i]'(by rw [namesOf_len]; exact h) = ps[i].1 := by unfold namesOf; rw [List.getElem_map]
def dtsTo (ps : List (ByteArray × ByteArray)) (i : Nat) : List Dt := (ps.take i).map (pdt (namesOf ps))
theorem dtsTo_len (ps : List (ByteArray × ByteArray)) (i : Nat) : (dtsTo ps i).length ≤ i := by unfold dtsTo; rw [List.length_map, List.length_take]; omega
theorem dtsTo_succ (ps : List (ByteArray × ByteArray)) (i : Nat) (h : i < ps.length) : dtsTo ps (i + 1) = dtsTo ps i ++ [pdt (namesOf ps) ps[i]] := map_take_snoc _ _ _ h
theorem dtsTo_all (ps : List (ByteArray × ByteArray)) {i : Nat} (h : ps.length ≤ i) : dtsTo ps i = buildS ps := by unfold dtsTo buildS; rw [List.take_of_length_le h]; rfl
def ktsTo (names ls : List ByteArray) (k : Nat) : List Kt := (ls.take k).map (pkt names)
theorem ktsTo_len (names ls : List ByteArray) (k : Nat) : (ktsTo names ls k).length ≤ k := by unfold ktsTo; rw [List.length_map, List.length_take]; omega
theorem ktsTo_succ (names ls : List ByteArray) (k : Nat) (h : k < ls.length) : ktsTo names ls (k + 1) = ktsTo names ls k ++ [pkt names ls[k]] := map_take_snoc _ _ _ h
theorem ktsTo_all (names ls : List ByteArray) {k : Nat} (hk : k ≤ 5) (h : ls.length ≤ k ∨ k = 5) : ktsTo names ls k = (ls.take 5).map (pkt names) := by
  unfold ktsTo
  rcases h with h | h
  · congr 1
    rw [List.take_of_length_le h]
    rcases Nat.lt_or_ge 5 ls.length with h5 | h5
    · omega
    · rw [List.take_of_length_le h5]
  · rw [h]
theorem Free.append {w : World} {F G : List Nat} (hF : Free w F) (hG : Free w G) (hd : ∀ b ∈ F, b ∉ G) : Free w (F ++ G) :=
  ⟨List.nodup_append.2 ⟨hF.1, hG.1, fun a ha b hb e => hd a ha (by rw [e]; exact hb)⟩, fun b hb i => by
    rcases List.mem_append.1 hb with h | h
    · exact hF.2 b h i
    · exact hG.2 b h i⟩
theorem Chg.trans_new {F : List Nat} {a b c : World} {D : Nat} (h : Chg F a b) (k : Chg [D] b c) (hD : a.heap.size ≤ D) : Chg F a c :=
  ⟨k.os.trans h.os, k.tape.trans h.tape, k.output.trans h.output, Nat.le_trans h.size k.size, fun x hx hn => (k.block x (Nat.lt_of_lt_of_le hx h.size) (by simp; omega)).trans (h.block x hx hn)⟩
/-! ### One round: a call, an element that is appended, the slice that is stored into the block D -/
section
variable {α : Type} {R : World → α → List Value → List Nat → Prop} {k D H : Nat} {E T : TypeId} {xs ys : List α} {w w9 wr wA w7 : World} {o : Obj} {nm v v' : Value} {F G : List Nat}
theorem grow_old (HO : Own wr (D + 1) E k R xs v F) (hBu : Below wr.heap.size wr wA) (hgr : (wA.alloc o).grownBy w7 v.ownBlock) {b : Nat} (hb : b < D + 1) (hbr : b < wr.heap.size) : w7.heap[b]? = wr.heap[b]? := by
  have hl : b < wA.heap.size := Nat.lt_of_lt_of_le hbr hBu.size
  refine ((hgr.block b (by rw [World.size_alloc]; omega) (fun e => ?_)).trans (Below.heap_alloc _ _ _ hl)).trans (hBu.block b hbr)
  have := (HO.row b (mem_rowOf.2 e.symm)).1
  omega
theorem grow_round (hRm : ∀ w w' x cs G, Kept G w w' → R w x cs G → R w' x cs G) (hw9 : w9.heap.size = D + 1) (KD : Blk wr D T #[nm, v]) (HO : Own wr (D + 1) E k R xs v F) (HF : Free wr F) (HFh : ∀ b ∈ F, D + 1 ≤ b) (HC : Chg [D] w9 wr) (hB : Below H w wr) (hHD : H ≤ D) (hw : H ≤ w.heap.size)
    (hBu : Below wr.heap.size wr wA) (hfrA : Free wA G) (hfsA : ∀ b ∈ G, wr.heap.size ≤ b ∧ b < wA.heap.size) (hown : Own w7 (D + 1) E k R ys v' (F ++ G)) (hgr : (wA.alloc o).grownBy w7 v.ownBlock) :
    Blk (w7.setCell ⟨D, 1, none⟩ v') D T #[nm, v'] ∧ Own (w7.setCell ⟨D, 1, none⟩ v') (D + 1) E k R ys v' (F ++ G) ∧ Free (w7.setCell ⟨D, 1, none⟩ v') (F ++ G) ∧ (∀ b ∈ F ++ G, D + 1 ≤ b) ∧ Chg [D] w9 (w7.setCell ⟨D, 1, none⟩ v') ∧ Below H w (w7.setCell ⟨D, 1, none⟩ v') ∧ w9.heap.size ≤ (w7.setCell ⟨D, 1, none⟩ v').heap.size := by
  have hlt := KD.lt
  have hA := hBu.size
  have hFG : ∀ b ∈ F ++ G, D + 1 ≤ b := fun b hb => by
    rcases List.mem_append.1 hb with h | h
    · exact HFh b h
    · have := (hfsA b h).1; omega
  have hBA7 : Below (D + 1) wA w7 := ((Below.refl (D + 1) wA).alloc (by omega) o).grown hgr (by rw [World.size_alloc]; omega) (fun g hg => (HO.row g (mem_rowOf.2 hg)).1)
  have hC7 : Chg [D] w9 w7 := (HC.step hBu).under (by rw [hw9]; exact hBA7)
  have hC8 : Chg [D] w9 (w7.setCell ⟨D, 1, none⟩ v') := hC7.set (by simp)
  have hne : ∀ b ∈ F ++ G, b ≠ D := fun b hb e => by have := hFG b hb; omega
  refine ⟨?_, Own.set (j := 1) hRm hown v' (fun h => by have := (hown.row _ h).1; omega) (fun h => hne _ h rfl), ?_, hFG, hC8, ?_, hC8.size⟩
  · exact (KD.same (grow_old HO hBu hgr (Nat.lt_succ_self D) hlt)).set_ 1 v'
  · have hfr : Free wA (F ++ G) := Free.append (HF.kept (.of_below hBu HO.under)) hfrA (fun b hb hG => by have h1 := HO.under b hb; have h2 := (hfsA b hG).1; omega)
    have hfr7 : Free w7 (F ++ G) := hfr.kept fun b hb => by
      have hbA : b < wA.heap.size := by
        rcases List.mem_append.1 hb with h | h
        · exact Nat.lt_of_lt_of_le (HO.under b h) hA
        · exact (hfsA b h).2
      refine (hgr.block b (by rw [World.size_alloc]; omega) (fun e => ?_)).trans (Below.heap_alloc _ _ _ hbA)
      have hrw := mem_rowOf.2 e.symm
      rcases List.mem_append.1 hb with h | h
      · exact HO.apart b hrw h
      · have h1 := (HO.row b hrw).2
        have h2 := (hfsA b h).1
        omega
    exact hfr7.kept fun b hb => Below.heap_setCell w7 ⟨D, 1, none⟩ v' b (hne b hb)
  · have h8 : Below H w w7 := (hB.trans (hBu.mono (Nat.le_trans hw hB.size))).trans (hBA7.mono (by omega))
    exact h8.setCell hHD _
/-- an element that lies there already is appended to a slice of the call's own, whose blocks are H or new -/
theorem push_round (HO : Own wr H E k R xs v F) (hFr : Free wr F) (HFr : Free wr G) (hd : ∀ b ∈ rowOf v ++ F, b < D) (hG : ∀ b ∈ G, D + 1 ≤ b ∧ b < wr.heap.size) {w6 : World} (HR : ∀ g ∈ rowOf v, g = H ∨ w6.heap.size ≤ g) (HC : Chg [H] w6 wr) (hB : Below H w wr) (hw : H ≤ w.heap.size) (HFh : ∀ b ∈ F, w6.heap.size ≤ b) (hD : w6.heap.size ≤ D)
    (hgr : (wr.alloc o).grownBy w7 v.ownBlock) {g n cp : Nat} (hat : v.ownBlock = some g ∨ g = wr.heap.size + 1) :
    Free w7 (F ++ G) ∧ (∀ b ∈ F ++ G, w6.heap.size ≤ b) ∧ (∀ g' ∈ rowOf (.slice (some ⟨g, 0, none⟩) n cp), g' = H ∨ w6.heap.size ≤ g') ∧ Chg [H] w6 w7 ∧ Below H w w7 ∧ w6.heap.size ≤ w7.heap.size := by
  have hb77 : Below wr.heap.size wr (wr.alloc o) := (Below.refl _ _).alloc (Nat.le_refl _) _
  have h6 := HC.size
  have h1 := HC.step hb77
  have hC7 : Chg [H] w6 w7 := by
    refine ⟨hgr.os.trans h1.os, hgr.tape.trans h1.tape, hgr.output.trans h1.output, Nat.le_trans h1.size hgr.size, fun x hx hn => (hgr.block x (Nat.lt_of_lt_of_le hx h1.size) (fun e => ?_)).trans (h1.block x hx hn)⟩
    rcases HR x (mem_rowOf.2 e.symm) with h | h
    · exact hn (by simp [h])
    · omega
  refine ⟨?_, fun b hb => ?_, fun g' hg' => ?_, hC7, ?_, hC7.size⟩
  · refine (Free.append hFr HFr (fun b hb hg => by have h1 := hd b (List.mem_append.2 (.inr hb)); have h2 := (hG b hg).1; omega)).kept (fun b hb => ?_)
    have hbl : b < wr.heap.size := by
      rcases List.mem_append.1 hb with h | h
      · exact HO.under b h
      · exact (hG b h).2
    refine (hgr.block b (Nat.lt_of_lt_of_le hbl hb77.size) (fun e => ?_)).trans (Below.heap_alloc _ _ _ hbl)
    have hrw := mem_rowOf.2 e.symm
    rcases List.mem_append.1 hb with h | h
    · exact HO.apart b hrw h
    · have h1 := hd b (List.mem_append.2 (.inl hrw))
      have h2 := (hG b h).1
      omega
  · rcases List.mem_append.1 hb with h | h
    · exact HFh b h
    · have := (hG b h).1; omega
  · rw [rowOf_some, List.mem_singleton] at hg'
    subst hg'
    rcases hat with h | h
    · exact HR _ (mem_rowOf.2 h)
    · right; omega
  · have hs := hB.size
    exact (hB.alloc (Nat.le_trans hw hs) _).grown hgr (by rw [World.size_alloc]; omega) (fun g hg => (HO.row g (mem_rowOf.2 hg)).1)
end
theorem KtR_len' (w : World) (x : Kt) (cs : List Value) (F : List Nat) (h : KtR w x cs F) : cs.length = 3 := KtR_len x cs F h
theorem KtR_mono' (w w' : World) (x : Kt) (cs : List Value) (F : List Nat) (hk : Kept F w w') (h : KtR w x cs F) : KtR w' x cs F := KtR.mono x cs F hk h
theorem DtR_len' (w : World) (x : Dt) (cs : List Value) (F : List Nat) (h : DtR w x cs F) : cs.length = 2 := DtR_len x cs F h
theorem DtR_mono' (w w' : World) (x : Dt) (cs : List Value) (F : List Nat) (hk : Kept F w w') (h : DtR w x cs F) : DtR w' x cs F := DtR.mono x cs F hk h
theorem info_KtE : (Try.prog.info? 138).map (fun i => (i.zero, i.size, i.bytes)) = some (some (.agg #[.string ⟨#[]⟩, .slice none 0 0, .int .i64 0]), 3, 48) := by kernel_rfl
theorem info_DtE : (Try.prog.info? 97).map (fun i => (i.zero, i.size, i.bytes)) = some (some (.agg #[.string ⟨#[]⟩, .slice none 0 0]), 2, 40) := by kernel_rfl
/-- what ParseWorld of the reference gives -/
def GivesWorld (w : World) (r : Option (List Dt)) (e : Ending) (w' : World) : Prop :=
  ∃ v F, e = .returned (.tuple #[v, .bool r.isSome]) ∧ Below w.heap.size w w' ∧ Arr w' (DtR w') (r.getD []) v F ∧ Free w' F ∧ Fresh w w' F
def parseB (text : ByteArray) : Option (List Dt) := parseW (tl text)
theorem parseB_bad {text : ByteArray} (h : parseS text = none) : parseB text = none := by unfold parseB parseW; rw [parseS_eq, h]
theorem parseB_no {text : ByteArray} {xs : List Dt} (h : parseS text = some xs) (h2 : worldOk xs = false) : parseB text = none := by unfold parseB parseW; rw [parseS_eq, h]; simp only; rw [if_neg (by simp [h2])]
theorem parseB_text {text : ByteArray} {xs : List Dt} (h : parseS text = some xs) (h3 : ¬ textT xs = tl text) : parseB text = none := by
  unfold parseB parseW; rw [parseS_eq, h]; simp only; rw [if_neg h3]; split <;> rfl
theorem parseB_yes {text : ByteArray} {xs : List Dt} (h : parseS text = some xs) (h2 : worldOk xs = true) (h3 : textT xs = tl text) : parseB text = some xs := by unfold parseB parseW; rw [parseS_eq, h]; simp only; rw [if_pos h2, if_pos h3]
end Go.Proofs.Ytilndhmegaccmaa

namespace Go.Proofs.Ytilndhmegaccmaa
open Go.RowKit

theorem Own.mono0 {α : Type} {w w' : World} {B k : Nat} {E : TypeId} {R : World → α → List Value → List Nat → Prop} {xs : List α} {v : Value} (hR : ∀ x cs G, R w x cs G → R w' x cs G) (h : Own w B E k R xs v []) (hk : Kept (rowOf v) w w') : Own w' B E k R xs v [] := by
  obtain ⟨cs, h1, h2, h3, h4⟩ := h
  refine ⟨cs, ⟨h1.1, ?_⟩, h2.mono fun x _ cs G _ hr => hR x cs G hr, Under.nil _, h4⟩
  rcases h1.2 with hn | ⟨g, cap, cur, rfl, hb, hg, rest⟩
  · exact .inl hn
  · exact .inr ⟨g, cap, cur, rfl, hb, (hk g (by simp [rowOf_some])).trans hg, rest⟩
def KtO (w : World) (c : Kt) (cs : List Value) (F : List Nat) : Prop := ∃ kv, cs = [.string c.name, kv, .int .i64 c.idx] ∧ Own w 0 32 2 TyR c.args kv [] ∧ F = rowOf kv ∧ c.name.size ≤ 9223372036854775807
theorem KtO_len (w : World) (c : Kt) (cs : List Value) (F : List Nat) (h : KtO w c cs F) : cs.length = 3 := by obtain ⟨kv, rfl, -⟩ := h; rfl
theorem KtO_mono (w w' : World) (c : Kt) (cs : List Value) (F : List Nat) (hk : Kept F w w') (h : KtO w c cs F) : KtO w' c cs F := by
  obtain ⟨kv, e, ho, rfl, hs⟩ := h
  exact ⟨kv, e, Own.mono0 (w := w) (w' := w') (fun x cs G (h : TyR w x cs G) => (h : TyR w' x cs G)) ho hk, rfl, hs⟩
theorem KtO.toR {w : World} {c : Kt} {cs : List Value} {F : List Nat} (h : KtO w c cs F) : ∃ G, (∀ b ∈ G, b ∈ F) ∧ KtR w c cs G := by
  obtain ⟨kv, rfl, ho, rfl, hs⟩ := h
  refine ⟨_, fun b hb => ?_, kv, rfl, ho.arr, hs⟩
  split at hb
  · cases hb
  · rwa [List.append_nil] at hb
def DtO (w : World) (x : Dt) (cs : List Value) (F : List Nat) : Prop := ∃ kv, cs = [.string x.name, kv] ∧ Arr w (KtO w) x.ctors kv F ∧ x.name.size ≤ 9223372036854775807
theorem DtO_len (w : World) (x : Dt) (cs : List Value) (F : List Nat) (h : DtO w x cs F) : cs.length = 2 := by obtain ⟨kv, rfl, -⟩ := h; rfl
theorem DtO_mono (w w' : World) (x : Dt) (cs : List Value) (F : List Nat) (hk : Kept F w w') (h : DtO w x cs F) : DtO w' x cs F := by
  obtain ⟨kv, e, ha, hs⟩ := h
  exact ⟨kv, e, ha.mono hk fun y _ cs G hk h => KtO_mono _ _ y cs G hk h, hs⟩
theorem Flat.weaken {α : Type} {R R' : α → List Value → List Nat → Prop} (hR : ∀ x cs G, R x cs G → ∃ G', (∀ b ∈ G', b ∈ G) ∧ R' x cs G') : ∀ {xs : List α} {cs : List Value} {F : List Nat}, Flat R xs cs F → ∃ F', (∀ b ∈ F', b ∈ F) ∧ Flat R' xs cs F'
  | [], cs, F, h => ⟨[], (fun b hb => by cases hb), h.1, rfl⟩
  | x :: xs, cs, F, h => by
    obtain ⟨c1, c2, F1, F2, rfl, rfl, h1, h2⟩ := h
    obtain ⟨G1, g1, r1⟩ := hR _ _ _ h1
    obtain ⟨G2, g2, r2⟩ := Flat.weaken hR h2
    exact ⟨G1 ++ G2, fun b hb => by
      rcases List.mem_append.1 hb with h | h
      · exact List.mem_append.2 (.inl (g1 b h))
      · exact List.mem_append.2 (.inr (g2 b h)), c1, c2, G1, G2, rfl, rfl, r1, r2⟩
theorem Arr.weaken {α : Type} {w : World} {R R' : α → List Value → List Nat → Prop} (hR : ∀ x cs G, R x cs G → ∃ G', (∀ b ∈ G', b ∈ G) ∧ R' x cs G') {xs : List α} {v : Value} {F : List Nat} (h : Arr w R xs v F) : ∃ F', (∀ b ∈ F', b ∈ F) ∧ Arr w R' xs v F' := by
  obtain ⟨A, cap, rfl, h1, h2, h3⟩ := h
  rcases h3 with ⟨h3, -⟩ | ⟨b, off, cs, G, rfl, hc, hf, rfl⟩
  · exact ⟨[], fun b hb => (by cases hb), A, cap, rfl, h1, h2, .inl ⟨h3, rfl⟩⟩
  · obtain ⟨G', hg, hf'⟩ := Flat.weaken hR hf
    exact ⟨b :: G', fun x hx => by
      rcases List.mem_cons.1 hx with rfl | h
      · simp
      · simp [hg x h], _, cap, rfl, h1, h2, .inr ⟨b, off, cs, G', rfl, hc, hf', rfl⟩⟩
theorem DtO.toR {w : World} {x : Dt} {cs : List Value} {F : List Nat} (h : DtO w x cs F) : ∃ G, (∀ b ∈ G, b ∈ F) ∧ DtR w x cs G := by
  obtain ⟨kv, rfl, ha, hs⟩ := h
  obtain ⟨G, hg, ha'⟩ := ha.weaken fun _ _ _ h => KtO.toR h
  exact ⟨G, hg, kv, rfl, ha', hs⟩
theorem ArrDtO.toR {w : World} {xs : List Dt} {v : Value} {F : List Nat} (h : Arr w (DtO w) xs v F) : ∃ G, (∀ b ∈ G, b ∈ F) ∧ Arr w (DtR w) xs v G := h.weaken fun _ _ _ h => DtO.toR h
/-- the lists of a world are short -/
def SmallW (n : Nat) (xs : List Dt) : Prop := ∀ x ∈ xs, x.ctors.length ≤ n ∧ ∀ c ∈ x.ctors, c.args.length ≤ n
theorem SmallW.of {xs : List Dt} (h : WorldOK xs) : SmallW 4 xs := fun x hx => ⟨(h.all x hx).hi, fun c hc => by have := ((h.all x hx).all c hc).args; omega⟩

theorem Flat.ones {α : Type} {R : α → List Value → List Nat → Prop} (hR : ∀ x cs G, R x cs G → ∀ u ∈ cs, u.oneCell' = true) : ∀ {xs : List α} {cs : List Value} {F : List Nat}, Flat R xs cs F → ∀ u ∈ cs, u.oneCell' = true
  | [], cs, F, h, u, hu => by obtain ⟨rfl, -⟩ := h; cases hu
  | x :: xs, cs, F, h, u, hu => by
    obtain ⟨c1, c2, F1, F2, rfl, rfl, h1, h2⟩ := h
    rcases List.mem_append.1 hu with h | h
    · exact hR _ _ _ h1 u h
    · exact Flat.ones hR h2 u h
theorem Flat.bare {α : Type} {R R' : α → List Value → List Nat → Prop} (hR : ∀ x cs G, R x cs G → R' x cs []) : ∀ {xs : List α} {cs : List Value} {F : List Nat}, Flat R xs cs F → Flat R' xs cs []
  | [], cs, F, h => ⟨h.1, rfl⟩
  | x :: xs, cs, F, h => by
    obtain ⟨c1, c2, F1, F2, rfl, rfl, h1, h2⟩ := h
    exact ⟨c1, c2, [], [], rfl, rfl, hR _ _ _ h1, Flat.bare hR h2⟩

/-! ### append of a whole slice that came in -/
section
variable {P : Program} {w : World}
theorem run_append_void (t ty e : TypeId) (i : TypeInfo) (ht : P.underlying t = some (.slice e)) (hi : P.info? e = some i) (g cap c : Nat) (A : Option Addr) (hA : A = none) :
    (Builtin.append_ #[t, t] ty #[.slice (some ⟨g, 0, none⟩) 0 cap, .slice A 0 c]).run P w = .ok (.slice (some ⟨g, 0, none⟩) 0 cap) w := by
  subst hA
  simp [Builtin.append_, run_underlying ht, sizeOf, typeInfo, hi, Builtin.lenOf, Builtin.firstCells, storeCells]
/-- onto an empty slice of the call's own (block g, no room): whatever comes in -/
theorem run_append_whole {α : Type} {R : α → List Value → List Nat → Prop} {RR : World → α → List Value → List Nat → Prop} {B k : Nat} {E : TypeId} (t ty : TypeId) (i : TypeInfo) (z : Value) (bytes : Nat) (ht : P.underlying t = some (.slice E)) (hi : P.info? E = some i) (hz : i.zero = some z)
    (hsize : i.size = k) (hby : i.bytes = bytes) (hzs : z.cells.size = k) (hk : 0 < k) (hRl : ∀ x cs G, R x cs G → cs.length = k) (hR1 : ∀ x cs G, R x cs G → ∀ u ∈ cs, u.oneCell' = true) (hRR : ∀ w' x cs G, R x cs G → RR w' x cs [])
    {g : Nat} (hown : Own w B E k RR ([] : List α) (.slice (some ⟨g, 0, none⟩) 0 0) []) {ys : List α} {A : Option Addr} {n c : Nat} {F : List Nat} (hy : Arr w R ys (.slice A n c) F)
    (h63 : ys.length ≤ 1000000) (hbytes : ys.length * bytes ≤ 140737488355328) (hbase : B ≤ w.heap.size) :
    ∃ v' w', (Builtin.append_ #[t, t] ty #[.slice (some ⟨g, 0, none⟩) 0 0, .slice A n c]).run P w = .ok v' w' ∧ Own w' B E k RR ys v' [] ∧ w.grownBy w' (some g) ∧ ∀ b ∈ rowOf v', b = g ∨ b = w.heap.size := by
  obtain ⟨A', c', hv, h1, h2, h3⟩ := hy
  cases hv
  rcases h3 with ⟨rfl, -⟩ | ⟨b, off, cs, G, rfl, hc, hf, -⟩
  · cases A with
    | none => exact ⟨_, w, run_append_void t ty E i ht hi g 0 c none rfl, hown, ⟨rfl, rfl, rfl, Nat.le_refl _, fun _ _ _ => rfl⟩, fun b hb => by rw [rowOf_some, List.mem_singleton] at hb; exact .inl hb⟩
    | some a =>
      obtain ⟨cs, o1, o2, o3, o4⟩ := hown
      obtain ⟨v', w', hr, q1, q2, q3, q4⟩ := run_append_own_at (P := P) w B t ty E i z k bytes ht hi hz hsize hby hzs hk _ 0 cs o1 a 0 c [] (by simp) (fun j u h => by simp at h) (fun u h => by cases h) (by simp [maxLen]) (by simp) hbase
      obtain ⟨rfl, -⟩ := o2
      refine ⟨v', w', hr, ⟨[], q1, ⟨rfl, rfl⟩, Under.nil _, fun g _ h => by cases h⟩, q2, fun b hb => ?_⟩
      have hb := mem_rowOf.1 hb
      rcases q4 with q4 | q4
      · left; rw [q4] at hb; exact (Option.some.inj hb).symm
      · right; rw [q4] at hb; exact (Option.some.inj hb).symm
  · obtain ⟨cs0, o1, o2, o3, o4⟩ := hown
    obtain ⟨rfl, -⟩ := o2
    have hl : cs.length = ys.length * k := hf.length hRl
    have hone := hf.ones hR1
    obtain ⟨v', w', hr, q1, q2, q3, q4⟩ := run_append_own_at (P := P) w B t ty E i z k bytes ht hi hz hsize hby hzs hk _ 0 [] o1 ⟨b, off, none⟩ ys.length c cs hl (fun j u hj => by rw [Addr.add_lit]; exact hc j u hj) hone (by unfold maxLen; omega) (by simpa using hbytes) hbase
    refine ⟨v', w', hr, ⟨cs, by simpa using q1, ?_, Under.nil _, fun g _ h => by cases h⟩, q2, fun x hx => ?_⟩
    · exact hf.bare (hRR w')
    · have hb := mem_rowOf.1 hx
      rcases q4 with q4 | q4
      · left; rw [q4] at hb; exact (Option.some.inj hb).symm
      · right; rw [q4] at hb; exact (Option.some.inj hb).symm
end
end Go.Proofs.Ytilndhmegaccmaa

namespace Go.Proofs.Ytilndhmegaccmaa
open Go.RowKit

section
variable {P : Program} {w : World}
theorem run_append_none (t ty e : TypeId) (i : TypeInfo) (ht : P.underlying t = some (.slice e)) (hi : P.info? e = some i) (A : Option Addr) (n cap c : Nat) (h : n ≤ cap) :
    (Builtin.append_ #[t, t] ty #[.slice A n cap, .slice none 0 c]).run P w = .ok (.slice A n cap) w := by
  cases A <;> simp [Builtin.append_, run_underlying ht, sizeOf, typeInfo, hi, Builtin.lenOf, Builtin.firstCells, storeCells, h]
/-- a whole slice, with what its elements lead to, behind a slice of the call's own -/
theorem run_append_all {α : Type} {R : World → α → List Value → List Nat → Prop} {B k : Nat} {E : TypeId} (t ty : TypeId) (i : TypeInfo) (z : Value) (bytes : Nat) (ht : P.underlying t = some (.slice E)) (hi : P.info? E = some i) (hz : i.zero = some z)
    (hsize : i.size = k) (hby : i.bytes = bytes) (hzs : z.cells.size = k) (hk : 0 < k) (hRl : ∀ w x cs G, R w x cs G → cs.length = k) (hRm : ∀ w w' x cs G, Kept G w w' → R w x cs G → R w' x cs G) (hR1 : ∀ w x cs G, R w x cs G → ∀ u ∈ cs, u.oneCell' = true)
    {xs : List α} {sv : Value} {F0 : List Nat} (hown : Own w B E k R xs sv F0) {ys : List α} {xv : Value} {F : List Nat} (hy : Arr w (R w) ys xv F) (hu : Under w.heap.size F) (hvG : ∀ g ∈ rowOf sv, g ∉ F)
    (h63 : xs.length + ys.length ≤ 1000000) (hbytes : (xs.length + ys.length) * bytes ≤ 140737488355328) (hbase : B ≤ w.heap.size) :
    ∃ v' w' G, (Builtin.append_ #[t, t] ty #[sv, xv]).run P w = .ok v' w' ∧ Own w' B E k R (xs ++ ys) v' (F0 ++ G) ∧ (∀ b ∈ G, b ∈ F) ∧ w.grownBy w' sv.ownBlock ∧ (v'.ownBlock = sv.ownBlock ∨ v'.ownBlock = some w.heap.size) := by
  have key : ∀ (a : Addr) (c : Nat) (cs1 : List Value) (G : List Nat), xv = .slice (some a) ys.length c → Flat (R w) ys cs1 G → (∀ b ∈ G, b ∈ F) → (∀ j u, cs1[j]? = some u → w.cell? (a.add j) = some u) →
      ∃ v' w' G, (Builtin.append_ #[t, t] ty #[sv, xv]).run P w = .ok v' w' ∧ Own w' B E k R (xs ++ ys) v' (F0 ++ G) ∧ (∀ b ∈ G, b ∈ F) ∧ w.grownBy w' sv.ownBlock ∧ (v'.ownBlock = sv.ownBlock ∨ v'.ownBlock = some w.heap.size) := by
    intro a c cs1 G hxv hf hGF hc
    subst hxv
    obtain ⟨cs, o1, o2, o3, o4⟩ := id hown
    have hl : cs1.length = ys.length * k := hf.length (hRl w)
    have hone := hf.ones (hR1 w)
    have hG : Under w.heap.size G := hu.sub hGF
    obtain ⟨v', w', hr, q1, q2, q3, q4⟩ := run_append_own_at (P := P) w B t ty E i z k bytes ht hi hz hsize hby hzs hk sv xs.length cs o1 a ys.length c cs1 hl hc hone (by unfold maxLen; omega) hbytes hbase
    refine ⟨v', w', G, hr, ⟨cs ++ cs1, by rw [List.length_append]; exact q1, ?_, ?_, ?_⟩, hGF, q2, q4⟩
    · exact (o2.mono fun x _ ds H hH hr => hRm w w' x ds H (grown_kept q2 (o3.sub hH) fun g hg hn => o4 g hg (hH g hn)) hr).append (hf.mono fun x _ ds H hH hr => hRm w w' x ds H (grown_kept q2 (hG.sub hH) fun g hg hn => hvG g hg (hGF g (hH g hn))) hr)
    · intro b hb
      rcases List.mem_append.1 hb with hb | hb
      · exact Nat.lt_of_lt_of_le (o3 b hb) q2.size
      · exact Nat.lt_of_lt_of_le (hG b hb) q2.size
    · intro b hb hbF
      have hb := mem_rowOf.1 hb
      rcases q4 with q4 | q4
      · rw [q4] at hb
        rcases List.mem_append.1 hbF with h | h
        · exact o4 b (mem_rowOf.2 hb) h
        · exact hvG b (mem_rowOf.2 hb) (hGF b h)
      · rw [q4] at hb
        obtain rfl := Option.some.inj hb
        rcases List.mem_append.1 hbF with h | h
        · exact Nat.lt_irrefl _ (o3 _ h)
        · exact Nat.lt_irrefl _ (hG _ h)
  obtain ⟨A, c, hv, h1, h2, h3⟩ := id hy
  rcases h3 with ⟨hys, hF⟩ | ⟨b, off, cs1, G, rfl, hc, hf, hF⟩
  · cases A with
    | none =>
      subst hv
      obtain ⟨A', cap', rfl, hc1, hc2⟩ := hown.form
      refine ⟨.slice A' xs.length cap', w, [], ?_, ?_, fun b hb => (by cases hb), ⟨rfl, rfl, rfl, Nat.le_refl _, fun _ _ _ => rfl⟩, .inl rfl⟩
      · subst hys
        exact run_append_none t ty E i ht hi A' xs.length cap' c hc1
      · subst hys
        rw [List.append_nil, List.append_nil]
        exact hown
    | some a => exact key a c [] [] hv (by subst hys; exact ⟨rfl, rfl⟩) (fun b hb => by cases hb) (fun j u h => by simp at h)
  · exact key ⟨b, off, none⟩ c cs1 G hv hf (fun b hb => by rw [hF]; exact List.mem_cons_of_mem _ hb) (fun j u hj => by rw [Addr.add_lit]; exact hc j u hj)
end
end Go.Proofs.Ytilndhmegaccmaa

namespace Go.Proofs.Ytilndhmegaccmaa
open Go.RowKit

def dtk (xs : List Dt) (d : Nat) : List Dt := xs.take d
def ktk (cs : List Kt) (k : Nat) : List Kt := cs.take k
theorem dtk_len (xs : List Dt) (d : Nat) : (dtk xs d).length ≤ d := by unfold dtk; rw [List.length_take]; omega
theorem ktk_len (cs : List Kt) (k : Nat) : (ktk cs k).length ≤ k := by unfold ktk; rw [List.length_take]; omega
theorem dtk_succ (xs : List Dt) (d : Nat) (h : d < xs.length) : dtk xs (d + 1) = dtk xs d ++ [xs[d]] := take_snoc' xs d h
theorem ktk_succ (cs : List Kt) (k : Nat) (h : k < cs.length) : ktk cs (k + 1) = ktk cs k ++ [cs[k]] := take_snoc' cs k h
theorem dtk_all (xs : List Dt) {d : Nat} (h : xs.length ≤ d) : dtk xs d = xs := List.take_of_length_le h
theorem ktk_all (cs : List Kt) {k : Nat} (h : cs.length ≤ k) : ktk cs k = cs := List.take_of_length_le h
theorem Own.free_row {α : Type} {w : World} {B k : Nat} {E : TypeId} {R : World → α → List Value → List Nat → Prop} {xs : List α} {v : Value} {F : List Nat} (h : Own w B E k R xs v F) : Free w (rowOf v) := by
  obtain ⟨cs, h1, -⟩ := h
  rcases h1.2 with ⟨rfl, -⟩ | ⟨g, cap, cur, rfl, hb, hg, -⟩
  · exact Free.nil _
  · rw [rowOf_some]
    exact ⟨by simp, fun b hb' i => by rw [List.mem_singleton] at hb'; subst hb'; simp [World.frozen?, hg]⟩
theorem TyR_one (w : World) (x : Ty) (cs : List Value) (G : List Nat) (h : TyR w x cs G) : ∀ u ∈ cs, u.oneCell' = true := by
  obtain ⟨rfl, -⟩ := h
  simp [Value.oneCell']
theorem wpList_append_run {P : Program} {w : World} {ops : Array Oper} {rest : List Oper} {o : Oper} {a : Act} {Q : Exit → Act → World → Prop} (hgd : o.guard = none) (s x : Operand) (t : TypeId)
    (ho : o.op = .call { callee := .builtin .append, args := #[s, x], argTypes := #[t, t] }) {sv xv v' : Value} {w' : World} (hs : a.eval s = sv) (hx : a.eval x = xv)
    (hr : (Builtin.append_ #[t, t] o.type #[sv, xv]).run P w = .ok v' w') (h : wpList P ops Q rest (a.put o.dst v') w') : wpList P ops Q (o :: rest) a w := by
  refine wpList_plain hgd fun K hK => ?_
  unfold Oper.wp execOp
  simp only [ho, resolve, invoke, builtin, Sem.run_bind, Sem.run_pure, Result.andThen_ok, List.map_toArray, List.map_cons, List.map_nil, hs, hx, hr]
  exact hK _ _ h
set_option maxRecDepth 100000 in
set_option maxHeartbeats 6400000 in
theorem spec_l1Copy (xs : List Dt) (w : World) (v : Value) (F : List Nat) (hx : Arr w (DtR w) xs v F) (hf : Under w.heap.size F) (hl : xs.length ≤ 100) (hsm : SmallW 100 xs) :
    Calls Try.prog 100 #[v] w fun e w' => ∃ v' F', e = .returned v' ∧ Below w.heap.size w w' ∧ Own w' w.heap.size 97 2 DtO xs v' F' ∧ Free w' F' ∧ (∀ b ∈ F', w.heap.size + 1 ≤ b) := by
  obtain ⟨A, cap, rfl, hc1, hc2⟩ := hx.form
  obtain ⟨i0, hi, hz0, hz1, hz2⟩ := info_parts info_KtE
  have HI := Lib.hid hi
  have HZ0 := Lib.hid hz0
  have HZ1 := Lib.hid hz1
  have HZ2 := Lib.hid hz2
  clear hi hz0 hz1 hz2
  obtain ⟨j0, hj, hj0, hj1, hj2⟩ := info_parts info_tyE
  have HJ := Lib.hid hj
  have HJ0 := Lib.hid hj0
  have HJ1 := Lib.hid hj1
  have HJ2 := Lib.hid hj2
  clear hj hj0 hj1 hj2
  obtain ⟨m0, hm, hm0, hm1, hm2⟩ := info_parts info_DtE
  have HM := Lib.hid hm
  have HM0 := Lib.hid hm0
  have HM1 := Lib.hid hm1
  have HM2 := Lib.hid hm2
  clear hm hm0 hm1 hm2
  have HSM := Lib.hid hsm
  have HX := Lib.hid hx
  have HF := Lib.hid hf
  clear hx hf
  clear hsm
  go_enter Try.func100, Try.ntmps100
  go_wp2
  have hB1 : Below w.heap.size w (w.alloc (.cells #[] 97)) := (Below.refl _ _).alloc (Nat.le_refl _) _
  have HO1 : Hid (Own (w.alloc (.cells #[] 97)) w.heap.size 97 2 DtO (dtk xs 0) (.slice (some ⟨w.heap.size, 0, none⟩) 0 0) []) := Own.made w w.heap.size 97 2 DtO #[] 0 (Nat.le_refl _) (by simp [maxLen]) rfl
  have hw1 : (w.alloc (.cells #[] 97)).heap.size = w.heap.size + 1 := World.size_alloc _ _
  obtain ⟨w1, hw1e⟩ : ∃ w1, w1 = w.alloc (.cells #[] 97) := ⟨_, rfl⟩
  rw [← hw1e] at hB1 HO1 hw1 ⊢
  clear hw1e
  go_loopw [3, 4] (fun ov dv wr => ∃ d : Nat, ∃ Fo : List Nat, d ≤ xs.length ∧ dv = .int .i64 d ∧ Hid (Own wr w.heap.size 97 2 DtO (dtk xs d) ov Fo) ∧ Hid (Free wr Fo) ∧ Hid (∀ b ∈ Fo, w1.heap.size ≤ b) ∧ Hid (Chg [w.heap.size] w1 wr) ∧ Below w.heap.size w wr ∧ w1.heap.size ≤ wr.heap.size) (fun _ dv _ => xs.length - (intOf dv).toNat)
  case atStart => exact ⟨0, [], Nat.zero_le _, rfl, HO1, Free.nil _, (fun b hb => by cases hb), Chg.refl _ _, hB1, Nat.le_refl _⟩
  case round =>
    clear hB1 HO1
    obtain ⟨d, Fo, hd, rfl, HO, HFr, HFh, HC, hB, hwr⟩ := hrel
    by_cases hdl : d < xs.length
    · obtain ⟨b, off, rfl⟩ := HX.out.ptr (by omega)
      have g1 : (0 : Int) ≤ (d : Int) := by omega
      have g2 : (d : Int) < (xs.length : Int) := by omega
      obtain ⟨A1, cap1, G1, hbw, c0w, c1w, HK, HG, hns, hn1, hn2⟩ := ArrDt.at HX.out HF.out (Below.refl _ _) d hdl
      have c0 := (hB.cell (p := ⟨b, off + d * 2, none⟩) hbw).trans c0w
      have hb : b < wr.heap.size := Nat.lt_of_lt_of_le hbw hB.size
      have hcl : xs[d].ctors.length ≤ 100 := (HSM.out _ (List.getElem_mem hdl)).1
      have hdk := dtk_len xs d
      have HB8 : Hid (∀ b ∈ rowOf u3 ++ Fo, b < wr.heap.size) := fun b hb => by
        rcases List.mem_append.1 hb with h | h
        · exact (HO.out.row b h).2
        · exact HO.out.under b h
      obtain ⟨w8, hw8⟩ : ∃ w8, w8 = wr := ⟨_, rfl⟩
      rw [← hw8] at HO HFr HC hB hwr c0 hb HB8 ⊢
      clear hw8
      have hw9 : Below w8.heap.size w8 (w8.alloc (.cells #[.string xs[d].name, .slice none 0 0] 97)) := (Below.refl _ _).alloc (Nat.le_refl _) _
      have HO9 : Hid (Own (w8.alloc (.cells #[.string xs[d].name, .slice none 0 0] 97)) w.heap.size 97 2 DtO (dtk xs d) u3 Fo) := HO.out.below (fun x cs G hk h => DtO_mono _ _ x cs G hk h) hw9
      have HFr9 : Hid (Free (w8.alloc (.cells #[.string xs[d].name, .slice none 0 0] 97)) Fo) := HFr.out.kept (.of_below hw9 HO.out.under)
      have HC9 : Hid (Chg [w.heap.size] w1 (w8.alloc (.cells #[.string xs[d].name, .slice none 0 0] 97))) := HC.out.step hw9
      have KD9 : Hid (Blk (w8.alloc (.cells #[.string xs[d].name, .slice none 0 0] 97)) w8.heap.size 97 #[.string xs[d].name, .slice none 0 0]) := Blk.new _ _ _
      have hB9 := hB.trans (hw9.mono hB.size)
      have hw9s : (w8.alloc (.cells #[.string xs[d].name, .slice none 0 0] 97)).heap.size = w8.heap.size + 1 := World.size_alloc _ _
      have hHD8 : w.heap.size ≤ w8.heap.size := hB.size
      have HR : Hid (∀ g ∈ rowOf u3, g = w.heap.size ∨ w1.heap.size ≤ g) := fun g hg => by have := (HO.out.row g hg).1; omega
      go_wp2
      obtain ⟨w9, hw9e⟩ : ∃ w9, w9 = w8.alloc (.cells #[.string xs[d].name, .slice none 0 0] 97) := ⟨_, rfl⟩
      rw [← hw9e] at HO9 HFr9 HC9 KD9 hB9 hw9s ⊢
      clear hw9 hw9e HO HFr HC hB c0 hb
      go_loopw [6] (fun kv' wr => ∃ k : Nat, ∃ kv : Value, ∃ Fk : List Nat, k ≤ xs[d].ctors.length ∧ kv' = .int .i64 k ∧ Hid (Blk wr w8.heap.size 97 #[.string xs[d].name, kv]) ∧ Hid (Own wr (w8.heap.size + 1) 138 3 KtO (ktk xs[d].ctors k) kv Fk) ∧ Hid (Free wr Fk) ∧ Hid (∀ b ∈ Fk, w8.heap.size + 1 ≤ b) ∧ Hid (Chg [w8.heap.size] w9 wr) ∧ Below w.heap.size w wr ∧ w9.heap.size ≤ wr.heap.size) (fun kv' _ => xs[d].ctors.length - (intOf kv').toNat)
      case atStart => exact ⟨0, _, [], Nat.zero_le _, rfl, KD9, (show Own _ _ _ _ _ (ktk xs[d].ctors 0) _ _ from Own.nil _ _ _ _ _), Free.nil _, (fun b hb => by cases hb), Chg.refl _ _, hB9, Nat.le_refl _⟩
      case round =>
        clear hB9 KD9
        obtain ⟨k, kv, Fk, hkl, rfl, KD, HOk, HFk, HFkh, HCk, hB, hw9r⟩ := hrel
        obtain ⟨kA, kcap, hkv, hkc1, hkc2⟩ := HOk.out.form
        subst hkv
        have z0 : wr.cell? ⟨w8.heap.size, 0, none⟩ = some (.string xs[d].name) := (KD.out.cell 0).trans (by simp)
        have z1 : wr.cell? ⟨w8.heap.size, 1, none⟩ = some (.slice kA (ktk xs[d].ctors k).length kcap) := (KD.out.cell 1).trans (by simp)
        have zf1 := KD.out.frozen 1
        have hkz := KD.out.lt
        have c1 := (hB.cell (p := ⟨b, off + d * 2 + 1, none⟩) hbw).trans c1w
        have hbr : b < wr.heap.size := Nat.lt_of_lt_of_le hbw hB.size
        by_cases hlt : k < xs[d].ctors.length
        · obtain ⟨b2, off2, rfl⟩ := HK.out.ptr (by omega)
          obtain ⟨A3, cap3, G3, hb3, k0, k1, k2, HKT, HG3, hks, hn3, hn4⟩ := ArrKt.rep HK.out HG.out hB k hlt
          have g3 : (0 : Int) ≤ (k : Int) := by omega
          have g4 : (k : Int) < (xs[d].ctors.length : Int) := by omega
          have hal : xs[d].ctors[k].args.length ≤ 100 := (HSM.out _ (List.getElem_mem hdl)).2 _ (List.getElem_mem hlt)
          have hkk := ktk_len xs[d].ctors k
          have harg : Arr w (TyR w) xs[d].ctors[k].args (.slice A3 xs[d].ctors[k].args.length cap3) G3 := by
            obtain ⟨kv, hkv, ha, -⟩ := HKT.out
            have : kv = .slice A3 xs[d].ctors[k].args.length cap3 := by simpa using (List.cons.inj (List.cons.inj hkv).2).1.symm
            rw [← this]; exact ha
          have ha1 : Below wr.heap.size wr (wr.alloc (.cells #[.string xs[d].ctors[k].name, .slice A3 xs[d].ctors[k].args.length cap3, .int .i64 xs[d].ctors[k].idx] 138)) := (Below.refl _ _).alloc (Nat.le_refl _) _
          have ha2 : Below wr.heap.size wr ((wr.alloc (.cells #[.string xs[d].ctors[k].name, .slice A3 xs[d].ctors[k].args.length cap3, .int .i64 xs[d].ctors[k].idx] 138)).alloc (.cells #[] 32)) := ha1.alloc ha1.size _
          have hos : Own ((wr.alloc (.cells #[.string xs[d].ctors[k].name, .slice A3 xs[d].ctors[k].args.length cap3, .int .i64 xs[d].ctors[k].idx] 138)).alloc (.cells #[] 32)) 0 32 2 TyR ([] : List Ty) (.slice (some ⟨wr.heap.size + 1, 0, none⟩) 0 0) [] := by
            have h := Own.made (wr.alloc (.cells #[.string xs[d].ctors[k].name, .slice A3 xs[d].ctors[k].args.length cap3, .int .i64 xs[d].ctors[k].idx] 138)) 0 32 2 TyR #[] 0 (Nat.zero_le _) (by simp [maxLen]) rfl
            rwa [World.size_alloc] at h
          have hKC : Blk ((wr.alloc (.cells #[.string xs[d].ctors[k].name, .slice A3 xs[d].ctors[k].args.length cap3, .int .i64 xs[d].ctors[k].idx] 138)).alloc (.cells #[] 32)) wr.heap.size 138 #[.string xs[d].ctors[k].name, .slice A3 xs[d].ctors[k].args.length cap3, .int .i64 xs[d].ctors[k].idx] := (Blk.new wr _ _).same (Below.heap_alloc _ _ _ (by simp))
          have hsz2 : ((wr.alloc (.cells #[.string xs[d].ctors[k].name, .slice A3 xs[d].ctors[k].args.length cap3, .int .i64 xs[d].ctors[k].idx] 138)).alloc (.cells #[] 32)).heap.size = wr.heap.size + 2 := by simp
          have hAB := ArrTy.below harg (hB.trans (ha2.mono hB.size)) HG3.out
          obtain ⟨v', wc, hrun, hoc, hgc, hrc⟩ := run_append_whole (P := Try.prog) (R := TyR ((wr.alloc (.cells #[.string xs[d].ctors[k].name, .slice A3 xs[d].ctors[k].args.length cap3, .int .i64 xs[d].ctors[k].idx] 138)).alloc (.cells #[] 32))) (RR := TyR) (B := 0) (k := 2) (E := 32) 136 136 j0 _ 16 Try.underlying136 HJ.out HJ0.out HJ1.out HJ2.out rfl (by decide) (fun x cs G h => TyR_len x cs G h) (fun x cs G h => TyR_one _ x cs G h) (fun w' x cs G h => ⟨h.1, rfl⟩) hos hAB (by omega) (by omega) (Nat.zero_le _)
          obtain ⟨vA, vcap, hv', hvc1, hvc2⟩ := hoc.form
          subst hv'
          generalize hwb : ((wr.alloc (.cells #[.string xs[d].ctors[k].name, .slice A3 xs[d].ctors[k].args.length cap3, .int .i64 xs[d].ctors[k].idx] 138)).alloc (.cells #[] 32)) = wb at *
          have kb1 : wb.cell? ⟨wr.heap.size, 1, none⟩ = some (.slice A3 xs[d].ctors[k].args.length cap3) := (hKC.cell 1).trans (by simp)
          have hKCc : Blk wc wr.heap.size 138 #[.string xs[d].ctors[k].name, .slice A3 xs[d].ctors[k].args.length cap3, .int .i64 xs[d].ctors[k].idx] := hKC.same (hgc.block _ (by omega) (fun e => by injection e; omega))
          have hbc : Below wr.heap.size wr wc := ha2.grown hgc (by omega) (fun g hg => by injection hg; omega)
          have hcz : wb.heap.size ≤ wc.heap.size := hgc.size
          have hrw : ∀ x ∈ rowOf (.slice vA xs[d].ctors[k].args.length vcap), wr.heap.size + 1 ≤ x := fun x hx => by rcases hrc x hx with h | h <;> omega
          have hx1 : wc.cell? ⟨w8.heap.size, 1, none⟩ = some (.slice kA (ktk xs[d].ctors k).length kcap) := (hbc.cell hkz).trans z1
          have hxf : wc.frozen? ⟨w8.heap.size, 1, none⟩ = false := (hbc.frozen hkz).trans zf1
          have y0 : wc.cell? ⟨wr.heap.size, 0, none⟩ = some (.string xs[d].ctors[k].name) := (hKCc.cell 0).trans (by simp)
          have y1 : wc.cell? ⟨wr.heap.size, 1, none⟩ = some (.slice A3 xs[d].ctors[k].args.length cap3) := (hKCc.cell 1).trans (by simp)
          have y2 : wc.cell? ⟨wr.heap.size, 2, none⟩ = some (.int .i64 xs[d].ctors[k].idx) := (hKCc.cell 2).trans (by simp)
          have yf1 := hKCc.frozen 1
          have hne : wr.heap.size ≠ w8.heap.size := by omega
          have hcs : wr.heap.size < wc.heap.size := hKCc.lt
          have hBu : Hid (Below wr.heap.size wr (wc.setCell ⟨wr.heap.size, 1, none⟩ (.slice vA xs[d].ctors[k].args.length vcap))) := hbc.setCell (Nat.le_refl _) _
          have hod := Own.set (j := 1) (b := wr.heap.size) TyR_mono' hoc (.slice vA xs[d].ctors[k].args.length vcap) (fun h => by have := hrw _ h; omega) (fun h => by cases h)
          have hrd := hod.row
          have HKO : Hid (KtO (wc.setCell ⟨wr.heap.size, 1, none⟩ (.slice vA xs[d].ctors[k].args.length vcap)) xs[d].ctors[k] [.string xs[d].ctors[k].name, .slice vA xs[d].ctors[k].args.length vcap, .int .i64 xs[d].ctors[k].idx] (rowOf (.slice vA xs[d].ctors[k].args.length vcap))) := ⟨_, rfl, hod, rfl, hks⟩
          have HfrA := Lib.hid hod.free_row
          have HfsA : Hid (∀ b ∈ rowOf (.slice vA xs[d].ctors[k].args.length vcap), wr.heap.size ≤ b ∧ b < (wc.setCell ⟨wr.heap.size, 1, none⟩ (.slice vA xs[d].ctors[k].args.length vcap)).heap.size) := fun b hb => ⟨by have := hrw b hb; omega, (hrd b hb).2⟩
          have HOA : Hid (Own (wc.setCell ⟨wr.heap.size, 1, none⟩ (.slice vA xs[d].ctors[k].args.length vcap)) (w8.heap.size + 1) 138 3 KtO (ktk xs[d].ctors k) (.slice kA (ktk xs[d].ctors k).length kcap) Fk) := HOk.out.below (fun x cs G hk h => KtO_mono _ _ x cs G hk h) hBu.out
          have HF2 := Lib.hid (ktk_succ xs[d].ctors k hlt)
          have HRUN := Lib.hid hrun
          have hbs2 : w8.heap.size + 1 ≤ (wc.setCell ⟨wr.heap.size, 1, none⟩ (.slice vA xs[d].ctors[k].args.length vcap)).heap.size := by have := hBu.out.size; omega
          clear hrun hod hrd hrw hrc hoc hgc hbc hKC hKCc ha1 ha2 hos hAB harg
          go_wp2_with (at_builtin; refine Halt.mk ?_)
          try rw [hwb]
          refine Halt.of (wpList_append_run rfl _ _ 136 rfl (by rfl) (by rfl) HRUN.out ?_)
          go_wp2_with (at_builtin; refine Halt.mk ?_)
          refine Halt.of (wpList_push1 (P := Try.prog) rfl _ _ 95 rfl i0 _ 48 Try.underlying95 HI.out HZ0.out HZ1.out HZ2.out rfl (by decide) KtO_len KtO_mono (by rfl) HOA.out xs[d].ctors[k] 138 [.string xs[d].ctors[k].name, .slice vA xs[d].ctors[k].args.length vcap, .int .i64 xs[d].ctors[k].idx] (rowOf (.slice vA xs[d].ctors[k].args.length vcap)) wc.heap.size (by rfl) (by simp [World.setCell]) (by simp [Value.oneCell']) HKO.out (fun b hb => (HfsA.out b hb).2) (fun g hg hG => Nat.lt_irrefl _ (Nat.lt_of_lt_of_le (HOk.out.row g hg).2 (HfsA.out g hG).1)) (by unfold maxLen; omega) (by omega) hbs2 ?_)
          intro g cp w7 hown7 hgr7 hat7
          have z71 : w7.cell? ⟨w8.heap.size, 1, none⟩ = some (.slice kA (ktk xs[d].ctors k).length kcap) := (World.cell?_of_block (a := ⟨w8.heap.size, 1, none⟩) (grow_old HOk.out hBu.out hgr7 (Nat.lt_succ_self _) hkz)).trans z1
          have zf71 : w7.frozen? ⟨w8.heap.size, 1, none⟩ = false := (World.frozen?_of_block (a := ⟨w8.heap.size, 1, none⟩) (grow_old HOk.out hBu.out hgr7 (Nat.lt_succ_self _) hkz)).trans zf1
          obtain ⟨r1, r2, r3, r4, r5, r6, r7⟩ := grow_round KtO_mono hw9s KD.out HOk.out HFk.out HFkh.out HCk.out hB hHD8 (Nat.le_refl _) hBu.out HfrA.out HfsA.out hown7 hgr7
          have R1 := Lib.hid r1
          have R2 := Lib.hid r2
          have R3 := Lib.hid r3
          have R4 := Lib.hid r4
          have R5 := Lib.hid r5
          have R6 := Lib.hid r6
          clear r1 r2 r3 r4 r5 r6 hown7 hgr7 hat7
          go_wp2
          go_roundw
          case rel => exact ⟨k + 1, _, _, hlt, by go_num, R1, by rw [HF2.out]; exact R2.out, R3, R4, R5, R6.out, r7⟩
          case measure => (simp [intOf] <;> omega)
        · have HF2 := Lib.hid (dtk_succ xs d hdl)
          have hOr : Hid (Own wr w.heap.size 97 2 DtO (dtk xs d) u3 Fo) := Own.mono (w := w9) (fun x cs G hk h => DtO_mono _ _ x cs G hk h) HO9.out (HCk.out.kept (fun b hb => by have := HB8.out b hb; omega) (fun b hb => by have := HB8.out b hb; simp; omega)) HCk.out.size
          have hFrr : Hid (Free wr Fo) := HFr9.out.kept (HCk.out.kept (fun b hb => by have := HB8.out b (List.mem_append.2 (.inr hb)); omega) (fun b hb => by have := HB8.out b (List.mem_append.2 (.inr hb)); simp; omega))
          have hw18 : w1.heap.size ≤ w8.heap.size := hwr
          have hCr : Hid (Chg [w.heap.size] w1 wr) := HC9.out.trans_new HCk.out hw18
          have hka : ktk xs[d].ctors k = xs[d].ctors := ktk_all _ (by omega)
          have harr := HOk.out.arr
          have hfree := HOk.out.free HFk.out
          have hrk := HOk.out.row
          have hff : ∀ b ∈ (if ktk xs[d].ctors k = [] then [] else rowOf (.slice kA (ktk xs[d].ctors k).length kcap) ++ Fk), w8.heap.size + 1 ≤ b ∧ b < wr.heap.size := fun b hb => by
            split at hb
            · cases hb
            · rcases List.mem_append.1 hb with h | h
              · exact hrk b h
              · exact ⟨HFkh.out b h, HOk.out.under b h⟩
          generalize (if ktk xs[d].ctors k = [] then [] else rowOf (.slice kA (ktk xs[d].ctors k).length kcap) ++ Fk) = FF at harr hfree hff
          have HFF := Lib.hid hff
          have HFREE := Lib.hid hfree
          have HDX : Hid (DtO wr xs[d] [.string xs[d].name, .slice kA (ktk xs[d].ctors k).length kcap] FF) := ⟨_, rfl, by rw [hka] at harr ⊢; exact harr, hns⟩
          have hbs : w.heap.size ≤ wr.heap.size := hB.size
          clear harr hfree hrk hff HOk HFk HFkh HO9 HFr9 HC9 hka
          go_wp2_with (at_builtin; refine Halt.mk ?_)
          refine Halt.of (wpList_push1 (P := Try.prog) rfl _ _ 30 rfl m0 _ 40 Try.underlying30 HM.out HM0.out HM1.out HM2.out rfl (by decide) DtO_len DtO_mono (by rfl) hOr.out xs[d] 97 [.string xs[d].name, .slice kA (ktk xs[d].ctors k).length kcap] FF _ (by rfl) rfl (by simp [Value.oneCell']) HDX.out (fun b hb => (HFF.out b hb).2) (fun g hg hG => by have h1 := HB8.out g (List.mem_append.2 (.inl hg)); have h2 := (HFF.out g hG).1; omega) (by unfold maxLen; omega) (by omega) hbs ?_)
          intro g cp w7 hown7 hgr7 hat7
          obtain ⟨r1, r2, r3, r4, r5, r6⟩ := push_round (n := (dtk xs d).length + 1) (cp := cp) hOr.out hFrr.out HFREE.out HB8.out HFF.out HR.out hCr.out hB (Nat.le_refl _) HFh.out hw18 hgr7 hat7
          have R1 := Lib.hid r1
          have R2 := Lib.hid r2
          have R4 := Lib.hid r4
          have R5 := Lib.hid r5
          have HO7 := Lib.hid hown7
          clear r1 r2 r3 r4 r5 hown7 hgr7 hat7
          go_wp2
          go_roundw
          case rel => exact ⟨d + 1, Fo ++ FF, hdl, by go_num, by rw [HF2.out]; exact HO7.out, R1, R2, R4, R5.out, r6⟩
          case measure => (simp [intOf] <;> omega)
    · have hfin : Own wr w.heap.size 97 2 DtO xs u3 Fo := by
        have h := HO.out
        rw [dtk_all xs (by omega)] at h
        exact h
      have HFin := Lib.hid hfin
      clear hfin HO
      go_wp2
      go_ret
      exact ⟨_, Fo, rfl, hB, HFin.out, HFr.out, fun b hb => by have := HFh.out b hb; omega⟩
end Go.Proofs.Ytilndhmegaccmaa

namespace Go.Proofs.Ytilndhmegaccmaa
open Go.RowKit

set_option maxRecDepth 100000 in
set_option maxHeartbeats 1600000 in
theorem values_closure (xs : List Dt) (hw : WorldOK xs) (d : Nat) (hd : d + 1 ≤ 10) (a : Ty) (ha : TyIn xs.length a) (A : Option Addr) (cap : Nat) (g1 g2 : Nat) (w : World) (F : List Nat) (hx : Arr w (DtR w) xs (.slice A xs.length cap) F) (hf : Under w.heap.size F) (hg1 : w.cell? ⟨g1, 0, none⟩ = some (.slice A xs.length cap)) (hl1 : g1 < w.heap.size) (hg2 : w.cell? ⟨g2, 0, none⟩ = some (.int .i64 ((d : Int) + 1))) (hl2 : g2 < w.heap.size) :
    Calls Try.prog 116 #[.agg #[.int .i64 a.d, .int .i64 a.i], .pointer (some ⟨g1, 0, none⟩), .pointer (some ⟨g2, 0, none⟩)] w fun e w' => e = .returned (.bool ((valsL xs d a).length == 0)) ∧ Below w.heap.size w w' := by
  have HN := Lib.hid (cntU_none xs d a)
  have HX := Lib.hid hx
  have HF := Lib.hid hf
  clear hx hf
  go_enter Try.func116, Try.ntmps116
  go_wp2_with fail
  obtain ⟨W2, hW2⟩ : ∃ W2, W2 = (w.alloc (.cells #[.int .i64 a.d, .int .i64 a.i] 32)) := ⟨_, rfl⟩
  have hB : Below w.heap.size w W2 := by rw [hW2]; exact (Below.refl _ _).alloc (Nat.le_refl _) _
  have KP : Blk W2 w.heap.size 32 #[.int .i64 a.d, .int .i64 a.i] := by rw [hW2]; exact Blk.new _ _ _
  have z0 : W2.cell? ⟨w.heap.size, 0, none⟩ = some (.int .i64 a.d) := (KP.cell 0).trans (by simp)
  have z1 : W2.cell? ⟨w.heap.size, 1, none⟩ = some (.int .i64 a.i) := (KP.cell 1).trans (by simp)
  have klt := KP.lt
  have y0 : W2.cell? ⟨g1, 0, none⟩ = some (.slice A xs.length cap) := (hB.cell (p := ⟨g1, 0, none⟩) hl1).trans hg1
  have y1 : W2.cell? ⟨g2, 0, none⟩ = some (.int .i64 ((d : Int) + 1)) := (hB.cell (p := ⟨g2, 0, none⟩) hl2).trans hg2
  have l1 := Nat.lt_of_lt_of_le hl1 hB.size
  have l2 := Nat.lt_of_lt_of_le hl2 hB.size
  rw [← hW2]
  clear hW2 KP hg1 hg2 hl1 hl2
  go_wp2_with fail
  refine (impl_countValues d xs hw a ha (by omega) W2 _ F (ArrDt.below HX.out hB HF.out) (HF.out.mono hB.size)).mono ?_
  rintro e w' ⟨rfl, hB'⟩
  have hB3 := hB.trans (hB'.mono hB.size)
  generalize hbb : ((cntU xs d a : Nat) : Int) = bb
  rw [hbb] at HN
  clear hbb hB' y0 y1 z0 z1 l1 l2 klt
  go_wp2
  go_ret
  exact ⟨ret_bool HN.out, hB3⟩
set_option maxRecDepth 100000 in
set_option maxHeartbeats 1600000 in
theorem IndexFunc_Ty2 (xs : List Dt) (hw : WorldOK xs) (d : Nat) (hd : d + 1 ≤ 10) (A : Option Addr) (cap : Nat) (g1 g2 : Nat) (l : List Ty) (hl : ∀ a ∈ l, TyIn xs.length a) (r : Int) (hr : FirstAt (fun a => (valsL xs d a).length == 0) l r) (w : World) (y : Value) (F G : List Nat) (hx : Arr w (DtR w) xs (.slice A xs.length cap) F) (hf : Under w.heap.size F) (hy : Arr w (TyR w) l y G) (hh : Under w.heap.size G) (hg1 : w.cell? ⟨g1, 0, none⟩ = some (.slice A xs.length cap)) (hl1 : g1 < w.heap.size) (hg2 : w.cell? ⟨g2, 0, none⟩ = some (.int .i64 ((d : Int) + 1))) (hl2 : g2 < w.heap.size) :
    Calls Try.prog 148 #[y, .func (.func 116) #[] #[.pointer (some ⟨g1, 0, none⟩), .pointer (some ⟨g2, 0, none⟩)]] w fun e w' => e = .returned (.int .i64 r) ∧ Below w.heap.size w w' := by
  obtain ⟨B, bap, rfl, hc1, hc2⟩ := hy.form
  have HLL := Lib.hid hl
  have HX := Lib.hid hx
  have HF := Lib.hid hf
  have HR := Lib.hid hr
  have HY := Lib.hid hy
  have HH := Lib.hid hh
  have HG1 := Lib.hid hg1
  have HG2 := Lib.hid hg2
  clear hx hf hr hy hh hg1 hg2
  clear hl
  go_enter Try.func148, Try.ntmps148
  go_wp2
  go_loopw [8] (fun iv wr => ∃ i : Nat, i ≤ l.length ∧ iv = .int .i64 i ∧ Hid (∀ j (hj : j < l.length), j < i → ((valsL xs d l[j]).length == 0) = false) ∧ Below w.heap.size w wr) (fun iv _ => l.length - (intOf iv).toNat)
  case atStart => exact ⟨0, Nat.zero_le _, rfl, fun j hj h => by omega, Below.refl _ _⟩
  case round =>
    obtain ⟨i, hk, rfl, HT, hB⟩ := hrel
    by_cases hlt : i < l.length
    · have hi0 : (0 : Int) ≤ (i : Int) := by omega
      have hi1 : (i : Int) < (l.length : Int) := by omega
      obtain ⟨b, off, rfl⟩ := HY.out.ptr (by omega)
      obtain ⟨hb, c0, c1⟩ := ArrTy.at HY.out HH.out hB i hlt
      go_wp2_with fail
      refine (values_closure xs hw d hd l[i] (HLL.out _ (List.getElem_mem hlt)) A cap g1 g2 wr F (ArrDt.below HX.out hB HF.out) (HF.out.mono hB.size) ((hB.cell (p := ⟨g1, 0, none⟩) hl1).trans HG1.out) (Nat.lt_of_lt_of_le hl1 hB.size) ((hB.cell (p := ⟨g2, 0, none⟩) hl2).trans HG2.out) (Nat.lt_of_lt_of_le hl2 hB.size)).mono ?_
      rintro e w' ⟨rfl, hB'⟩
      have hB3 := hB.trans (hB'.mono hB.size)
      cases hq : ((valsL xs d l[i]).length == 0) with
      | true =>
        have hf : Hid (r = (i : Int)) := HR.out.hit hlt hq (fun j hj h => HT.out j hj h)
        clear hq c0 c1
        go_wp2
        go_ret
        exact ⟨ret_int hf.out.symm, hB3⟩
      | false =>
        have hT2 : Hid (∀ j (hj : j < l.length), j < i + 1 → ((valsL xs d l[j]).length == 0) = false) := fun j hj h => by
          rcases Nat.lt_or_ge j i with h2 | h2
          · exact HT.out j hj h2
          · obtain rfl : j = i := by omega
            exact hq
        clear hq c0 c1
        go_wp2
        go_roundw
        case rel => exact ⟨i + 1, by omega, by go_num, hT2, hB3⟩
        case measure => simp [intOf]; omega
    · have hf : Hid (r = -1) := HR.out.miss (fun j hj => HT.out j hj (by omega))
      go_wp2
      go_ret
      exact ⟨ret_int hf.out.symm, hB⟩
set_option maxRecDepth 100000 in
set_option maxHeartbeats 1600000 in
theorem ContainsFunc_Ty2 (xs : List Dt) (hw : WorldOK xs) (d : Nat) (hd : d + 1 ≤ 10) (A : Option Addr) (cap : Nat) (g1 g2 : Nat) (l : List Ty) (hl : ∀ a ∈ l, TyIn xs.length a) (w : World) (y : Value) (F G : List Nat) (hx : Arr w (DtR w) xs (.slice A xs.length cap) F) (hf : Under w.heap.size F) (hy : Arr w (TyR w) l y G) (hh : Under w.heap.size G) (hg1 : w.cell? ⟨g1, 0, none⟩ = some (.slice A xs.length cap)) (hl1 : g1 < w.heap.size) (hg2 : w.cell? ⟨g2, 0, none⟩ = some (.int .i64 ((d : Int) + 1))) (hl2 : g2 < w.heap.size) :
    Calls Try.prog 115 #[y, .func (.func 116) #[] #[.pointer (some ⟨g1, 0, none⟩), .pointer (some ⟨g2, 0, none⟩)]] w fun e w' => e = .returned (.bool (noneB xs d l)) ∧ Below w.heap.size w w' := by
  obtain ⟨r, hr⟩ := FirstAt.ex (fun a => (valsL xs d a).length == 0) l
  have hres : Hid (noneB xs d l = decide (0 ≤ r)) := hr.any
  have hcall := IndexFunc_Ty2 xs hw d hd A cap g1 g2 l hl r hr w y F G hx hf hy hh hg1 hl1 hg2 hl2
  obtain ⟨B, bap, rfl, hc1, hc2⟩ := hy.form
  have HC := Lib.hid hcall
  clear hcall hr hx hf hy hh hg1 hg2
  go_enter Try.func115, Try.ntmps115
  go_wp2_with fail
  refine HC.out.mono ?_
  rintro e w' ⟨rfl, hB'⟩
  go_wp2
  go_ret
  exact ⟨ret_bool hres.out.symm, hB'⟩
theorem VR_one (w : World) (x : V) (cs : List Value) (G : List Nat) (h : VR w x cs G) : ∀ u ∈ cs, u.oneCell' = true := by
  obtain ⟨kv, rfl, ha⟩ := (VR_iff _ _ _).1 h
  obtain ⟨A, cap, rfl, -, -⟩ := ha.form
  simp [Value.oneCell']
/-- a copy of a list of values: a row of the call's own, its elements as before -/
def ClonedV (ks : List V) (w : World) (F : List Nat) (e : Ending) (w' : World) : Prop := ∃ v G, e = .returned v ∧ Below w.heap.size w w' ∧ Own w' w.heap.size 53 3 VR ks v G ∧ ∀ b ∈ G, b ∈ F
set_option maxRecDepth 100000 in
set_option maxHeartbeats 1600000 in
theorem Clone_V (ks : List V) (hk : ks.length ≤ 1000) (w : World) (x : Value) (F : List Nat) (hx : Arr w (VR w) ks x F) (hf : Under w.heap.size F) : Calls Try.prog 117 #[x] w (ClonedV ks w F) := by
  obtain ⟨A, cap, rfl, hc1, hc2⟩ := hx.form
  obtain ⟨i0, hi, hz0, hz1, hz2⟩ := info_parts info_VE
  have HI := Lib.hid hi
  have HZ0 := Lib.hid hz0
  have HZ1 := Lib.hid hz1
  have HZ2 := Lib.hid hz2
  have HX := Lib.hid hx
  have HF := Lib.hid hf
  clear hi hz0 hz1 hz2 hx hf
  have qT : ∀ (w : World) (a : Option Addr) (n c n' c' : Nat), (binOp .eql 39 (.slice a n c) (.slice none n' c')).run Try.prog w = .ok (.bool a.isNone) w := fun w a n c n' c' => Lib.run_eql_slice_nil w _ _ a n c n' c' Try.underlying39
  cases A with
  | none =>
    have hz : ks = [] := by
      obtain ⟨A', cap', hv, h1, h2, h3⟩ := HX.out
      cases hv
      rcases h3 with ⟨h, -⟩ | ⟨b, off, cs, G, h, -⟩
      · exact h
      · cases h
    subst hz
    go_enter Try.func117, Try.ntmps117
    go_wp2
    go_ret
    exact ⟨_, [], rfl, Below.refl _ _, Own.nil _ _ _ _ _, fun b hb => by cases hb⟩
  | some ad =>
    have hB0 : Below w.heap.size w (w.alloc (.cells #[] 53)) := (Below.refl _ _).alloc (Nat.le_refl _) _
    have hO0 : Own (w.alloc (.cells #[] 53)) w.heap.size 53 3 VR ([] : List V) (.slice (some ⟨w.heap.size, 0, none⟩) 0 0) [] := Own.made w _ _ _ _ _ 0 (Nat.le_refl _) (by simp [maxLen]) rfl
    have hX0 : Arr (w.alloc (.cells #[] 53)) (VR (w.alloc (.cells #[] 53))) ks (.slice (some ad) ks.length cap) F := ArrV.below HX.out hB0 HF.out
    obtain ⟨v', w', G, hr, ho, hG, hgr, hat⟩ := run_append_all (P := Try.prog) 39 39 i0 _ 40 Try.underlying39 HI.out HZ0.out HZ1.out HZ2.out rfl (by decide) VR_len' VR_mono' VR_one hO0 hX0 (HF.out.mono hB0.size) (fun g hg hgF => by rw [rowOf_some, List.mem_singleton] at hg; subst hg; exact Nat.lt_irrefl _ (HF.out _ hgF)) (by simp; omega) (by simp; omega) hB0.size
    rw [List.nil_append, List.nil_append] at ho
    have hB' : Below w.heap.size w w' := hB0.grown hgr hB0.size (fun g hg => by
      have hg : some w.heap.size = some g := hg
      cases hg; exact Nat.le_refl _)
    have HFin : Hid (ClonedV ks w F (.returned v') w') := ⟨v', G, rfl, hB', ho, hG⟩
    have HRUN := Lib.hid hr
    clear hr ho hB' hgr hat hG hX0 hO0 hB0
    go_enter Try.func117, Try.ntmps117
    go_wp2_with (at_builtin; refine Halt.mk ?_)
    refine Halt.of (wpList_append_run rfl _ _ 39 rfl (by rfl) (by rfl) HRUN.out ?_)
    go_wp2
    go_ret
    exact HFin.out
end Go.Proofs.Ytilndhmegaccmaa

namespace Go.Proofs.Ytilndhmegaccmaa
open Go.RowKit

/-- a table whose entries are small -/
structure Small (n : Nat) (tab : List Int) : Prop where
  len : tab.length = n * 4
  pos : ∀ s, 0 ≤ tab.getD s 0
  max : ∀ s, tab.getD s 0 ≤ 100000
theorem Small.dep {n : Nat} {tab : List Int} (h : Small n tab) (t : Ty) : 0 ≤ depthIn tab t ∧ depthIn tab t ≤ 100000 := by
  unfold depthIn
  split
  · omega
  · exact ⟨h.pos _, h.max _⟩
theorem depthIn_int {tab : List Int} {t : Ty} (h : t.d = -1) : depthIn tab t = 1 := if_pos h
theorem depthIn_data {tab : List Int} {d i : Nat} (h : d * 4 + i < tab.length) : depthIn tab ⟨(d : Int), (i : Int)⟩ = tab[d * 4 + i] := by
  unfold depthIn
  rw [if_neg (by show ¬ ((d : Int) = -1); omega), slotOf_mk]
  simp [List.getD, List.getElem?_eq_getElem h]
/-- the walk through the arguments, i of them done -/
theorem mostGo_step {tab : List Int} {ls : List Ty} {m : Int} {i : Nat} (h : i < ls.length) : mostGo tab m (ls.drop i) = if depthIn tab ls[i] = 0 then 0 else mostGo tab (max m (depthIn tab ls[i])) (ls.drop (i + 1)) := by
  rw [List.drop_eq_getElem_cons h, mostGo]

set_option maxRecDepth 100000 in
set_option maxHeartbeats 1600000 in
theorem spec_l1Slot (d i : Nat) (hd : d < 4) (hi : i < 4) (w : World) : Calls Try.prog 153 #[.agg #[.int .i64 (d : Int), .int .i64 (i : Int)]] w fun e w' => e = .returned (.int .i64 ((d * 4 + i : Nat) : Int)) ∧ Below w.heap.size w w' := by
  have g1 : (0 : Int) ≤ (d : Int) := by omega
  have g2 : (d : Int) ≤ 3 := by omega
  have g3 : (0 : Int) ≤ (i : Int) := by omega
  have g4 : (i : Int) ≤ 3 := by omega
  go_enter Try.func153, Try.ntmps153
  go_wp2
  go_ret
  exact ⟨ret_int (by omega), (Below.refl _ _).alloc (Nat.le_refl _) _⟩

set_option maxRecDepth 100000 in
set_option maxHeartbeats 1600000 in
theorem spec_l1Depth (n : Nat) (hn : n ≤ 4) (tab : List Int) (htab : Small n tab) (t : Ty) (ht : TyIn n t) (w : World) (v : Value) (F : List Nat) (hx : Arr w (NatR w) tab v F) (hf : Under w.heap.size F) :
    Calls Try.prog 125 #[v, .agg #[.int .i64 t.d, .int .i64 t.i]] w fun e w' => e = .returned (.int .i64 (depthIn tab t)) ∧ Below w.heap.size w w' := by
  obtain ⟨A, cap, rfl, hc1, hc2⟩ := hx.form
  have HX := Lib.hid hx
  have HF := Lib.hid hf
  clear hx hf
  rcases ht with ht | ⟨d, i, rfl, hd, hi⟩
  · have hf := Lib.hid (depthIn_int (tab := tab) ht)
    have t0 : (t.d == -1) = true := by simp [ht]
    clear ht
    go_enter Try.func125, Try.ntmps125
    go_wp2
    go_ret
    exact ⟨ret_int hf.out.symm, (Below.refl _ _).alloc (Nat.le_refl _) _⟩
  · have hsl : d * 4 + i < tab.length := by rw [htab.len]; omega
    have hf := Lib.hid (depthIn_data hsl)
    have t0 : ((d : Int) == -1) = false := by rw [beq_eq_false_iff_ne]; omega
    go_enter Try.func125, Try.ntmps125
    go_wp2_with fail
    refine (spec_l1Slot d i (by omega) hi _).mono ?_
    rintro e w' ⟨rfl, hB'⟩
    have hB0 : Below w.heap.size w (w.alloc (.cells #[.int .i64 (d : Int), .int .i64 (i : Int)] 32)) := (Below.refl _ _).alloc (Nat.le_refl _) _
    have hB := hB0.trans (hB'.mono hB0.size)
    obtain ⟨b, off, rfl⟩ := HX.out.ptr (by omega)
    obtain ⟨hb, c0⟩ := ArrNat.at HX.out HF.out hB (d * 4 + i) hsl
    have g5 : (0 : Int) ≤ ((d * 4 + i : Nat) : Int) := by omega
    have g6 : ((d * 4 + i : Nat) : Int) < (tab.length : Int) := by omega
    generalize hq : d * 4 + i = q at *
    clear hq hB'
    go_wp2
    go_ret
    exact ⟨ret_int hf.out.symm, hB⟩

set_option maxRecDepth 100000 in
set_option maxHeartbeats 1600000 in
theorem spec_l1Most (xs : List Dt) (hw : WorldOK xs) (tab : List Int) (htab : Small xs.length tab) (d i k : Nat) (hd : d < xs.length) (hi : i < 4) (hk : k < xs[d].ctors.length) (w : World) (v u : Value) (F G : List Nat) (hx : Arr w (DtR w) xs v F) (hf : Under w.heap.size F) (hy : Arr w (NatR w) tab u G) (hg : Under w.heap.size G) :
    Calls Try.prog 126 #[v, u, .agg #[.int .i64 (d : Int), .int .i64 (i : Int)], .int .i64 (k : Int)] w fun e w' => e = .returned (.int .i64 (mostIn xs tab ⟨(d : Int), (i : Int)⟩ (k : Int))) ∧ Below w.heap.size w w' := by
  have hmi : mostIn xs tab ⟨(d : Int), (i : Int)⟩ (k : Int) = mostGo tab 0 (argsL xs[d].ctors[k] (i : Int)) := by unfold mostIn; rw [argsOf_get hd hk]
  rw [hmi]
  clear hmi
  have hin : ∀ a ∈ argsL xs[d].ctors[k] (i : Int), TyIn xs.length a := fun a ha => argTy_in (hw.ctor hd hk) (by omega) (by omega) ha
  have hlen : (argsL xs[d].ctors[k] (i : Int)).length ≤ 3 := by rw [argsL_len]; exact (hw.ctor hd hk).args
  have HL := Lib.hid (hw.ctor hd hk).args
  have hn4 := hw.len
  obtain ⟨A, cap, rfl, hc1, hc2⟩ := hx.form
  obtain ⟨A', cap', rfl, hc3, hc4⟩ := hy.form
  have HIN := Lib.hid hin
  have HX := Lib.hid hx
  have HF := Lib.hid hf
  have HY := Lib.hid hy
  have HG := Lib.hid hg
  clear hx hf hy hg
  have HT := Lib.hid htab
  clear hin htab hw
  go_enter Try.func126, Try.ntmps126
  go_wp2_with fail
  have hB0 : Below w.heap.size w (w.alloc (.cells #[.int .i64 (d : Int), .int .i64 (i : Int)] 32)) := (Below.refl _ _).alloc (Nat.le_refl _) _
  refine (spec_l1Args xs d k (i : Int) hd hk _ _ F (ArrDt.below HX.out hB0 HF.out) (HF.out.mono hB0.size) HL.out).mono ?_
  rintro e w3 ⟨v3, F3, rfl, hb3, ha3, -, hfs3⟩
  have hB3 := hB0.trans (hb3.mono hB0.size)
  generalize hass : argsL xs[d].ctors[k] (i : Int) = ls at *
  have HASS := Lib.hid hass
  clear hass
  obtain ⟨A3, cap3, rfl, hd1, hd2⟩ := ha3.form
  have HA := Lib.hid ha3
  have HUA := Lib.hid hfs3.under
  clear ha3 hfs3 hb3 hB0
  go_wp2
  go_loopw [10, 11] (fun mv jv wr => ∃ j : Nat, ∃ m : Int, j ≤ ls.length ∧ jv = .int .i64 j ∧ mv = .int .i64 m ∧ 0 ≤ m ∧ m ≤ 100000 ∧ Hid (mostGo tab 0 ls = mostGo tab m (ls.drop j)) ∧ Below w.heap.size w wr ∧ Hid (Below w3.heap.size w3 wr)) (fun _ jv _ => ls.length - (intOf jv).toNat)
  case atStart => exact ⟨0, 0, Nat.zero_le _, rfl, rfl, by omega, by omega, (show mostGo tab 0 ls = mostGo tab 0 ls from rfl), hB3, Below.refl _ _⟩
  case round =>
    obtain ⟨j, m, hj, rfl, rfl, hm0, hm1, HM, hB, HB3⟩ := hrel
    by_cases hjl : j < ls.length
    · obtain ⟨b3, off3, rfl⟩ := HA.out.ptr (by omega)
      obtain ⟨hb4, a0, a1⟩ := ArrTy.at HA.out HUA.out HB3.out j hjl
      have g5 : (0 : Int) ≤ (j : Int) := by omega
      have g6 : (j : Int) < (ls.length : Int) := by omega
      have hstep := HM.out.trans (mostGo_step hjl)
      have HST := Lib.hid hstep
      clear hstep
      go_wp2_with fail
      refine (spec_l1Depth xs.length hn4 tab HT.out ls[j] (HIN.out _ (List.getElem_mem hjl)) wr _ G (ArrNat.below HY.out hB HG.out) (HG.out.mono hB.size)).mono ?_
      rintro e w5 ⟨rfl, hb5⟩
      have hB5 := hB.trans (hb5.mono hB.size)
      have HB5 := Lib.hid (HB3.out.trans (hb5.mono HB3.out.size))
      have hdp := HT.out.dep ls[j]
      generalize hdd : depthIn tab ls[j] = q at *
      by_cases hq : q = 0
      · have t0 : (q == 0) = true := by simp [hq]
        have hf : Hid (mostGo tab 0 ls = 0) := by have h := HST.out; rw [if_pos hq] at h; exact h
        clear hdd hq
        go_wp2
        go_ret
        exact ⟨ret_int (by rw [HASS.out]; exact hf.out.symm), hB5⟩
      · have t0 : (q == 0) = false := by simpa using hq
        have h2 : mostGo tab 0 ls = mostGo tab (max m q) (ls.drop (j + 1)) := by have h := HST.out; rw [if_neg hq] at h; exact h
        clear hdd hq
        by_cases hgt : m < q
        · have t1 : decide (q > m) = true := by simpa using hgt
          rw [show max m q = q by omega] at h2
          have HM2 := Lib.hid h2
          clear h2 hgt
          go_wp2
          go_roundw
          case rel => exact ⟨j + 1, q, by omega, by go_num, rfl, by omega, by omega, HM2, hB5, HB5⟩
          case measure => (simp [intOf] <;> omega)
        · have t1 : decide (q > m) = false := by simp; omega
          rw [show max m q = m by omega] at h2
          have HM2 := Lib.hid h2
          clear h2 hgt
          go_wp2
          go_roundw
          case rel => exact ⟨j + 1, m, by omega, by go_num, rfl, by omega, by omega, HM2, hB5, HB5⟩
          case measure => (simp [intOf] <;> omega)
    · have hf : Hid (mostGo tab 0 ls = m + 1) := by
        have h := HM.out
        rw [List.drop_of_length_le (by omega)] at h
        exact h
      go_wp2
      go_ret
      exact ⟨ret_int (by rw [HASS.out]; exact hf.out.symm), hB⟩
end Go.Proofs.Ytilndhmegaccmaa

namespace Go.Proofs.Ytilndhmegaccmaa
open Go.RowKit

def cellsOf (l : List Int) : Array Value := (l.map (Value.int .i64)).toArray
/-- the sixteen cells of the program's table -/
def pad (tab : List Int) : List Int := tab ++ List.replicate (16 - tab.length) 0
theorem cellsOf_get {l : List Int} {s : Nat} (h : s < l.length) : (cellsOf l)[s]? = some (.int .i64 l[s]) := by
  unfold cellsOf
  simp [List.getElem?_map, List.getElem?_eq_getElem h]
theorem cellsOf_set (l : List Int) (s : Nat) (n : Int) : (cellsOf l).setIfInBounds s (.int .i64 n) = cellsOf (l.set s n) := by
  unfold cellsOf
  rw [List.setIfInBounds_toArray, List.map_set]
theorem pad_get {tab : List Int} {s : Nat} (h : s < tab.length) (h2 : s < (pad tab).length) : (pad tab)[s] = tab[s] := by
  have h3 : (pad tab)[s]? = some tab[s] := by unfold pad; rw [List.getElem?_append_left h, List.getElem?_eq_getElem h]
  rw [List.getElem?_eq_getElem h2] at h3
  exact Option.some.inj h3
theorem pad_len {tab : List Int} (h : tab.length ≤ 16) : (pad tab).length = 16 := by unfold pad; rw [List.length_append, List.length_replicate]; omega
theorem pad_set {tab : List Int} {s : Nat} (h : s < tab.length) (n : Int) : (pad tab).set s n = pad (tab.set s n) := by
  unfold pad; rw [List.set_append_left _ _ h, List.length_set]
/-- block g holds the program's table -/
def Tab (w : World) (g : Nat) (tab : List Int) : Prop := Blk w g 158 (cellsOf (pad tab))
theorem Tab.cell {w : World} {g : Nat} {tab : List Int} (h : Tab w g tab) {s : Nat} (hs : s < tab.length) : w.cell? ⟨g, s, none⟩ = some (.int .i64 tab[s]) := by
  have hp : s < (pad tab).length := by unfold pad; rw [List.length_append]; omega
  rw [(show Blk w g 158 (cellsOf (pad tab)) from h).cell s, cellsOf_get hp, pad_get hs hp]

set_option maxRecDepth 100000 in
set_option maxHeartbeats 1600000 in
theorem impl_of (n : Nat) (hn : n ≤ 4) (tab : List Int) (htab : Small n tab) (t : Ty) (ht : TyIn n t) (w : World) (g : Nat) (hx : Tab w g tab) :
    Calls Try.prog 80 #[.pointer (some ⟨g, 0, none⟩), .agg #[.int .i64 t.d, .int .i64 t.i]] w fun e w' => e = .returned (.int .i64 (depthIn tab t)) ∧ Below w.heap.size w w' := by
  have hgl := Blk.lt hx
  have HX := Lib.hid hx
  clear hx
  rcases ht with ht | ⟨d, i, rfl, hd, hi⟩
  · have hf := Lib.hid (depthIn_int (tab := tab) ht)
    have t0 : (t.d == -1) = true := by simp [ht]
    clear ht
    go_enter Try.func80, Try.ntmps80
    go_wp2
    go_ret
    exact ⟨ret_int hf.out.symm, (Below.refl _ _).alloc (Nat.le_refl _) _⟩
  · have hsl : d * 4 + i < tab.length := by rw [htab.len]; omega
    have hf := Lib.hid (depthIn_data hsl)
    have t0 : ((d : Int) == -1) = false := by rw [beq_eq_false_iff_ne]; omega
    have c0 := HX.out.cell hsl
    have g1 : (0 : Int) ≤ (d : Int) := by omega
    have g2 : (d : Int) < 4 := by omega
    have g3 : (0 : Int) ≤ (i : Int) := by omega
    have g4 : (i : Int) < 4 := by omega
    have HB := Lib.hid (fun q => below_drewN ((Below.refl w.heap.size w).alloc (Nat.le_refl _) (.cells #[.int .i64 (d : Int), .int .i64 (i : Int)] 32)) q)
    go_enter Try.func80, Try.ntmps80
    go_wp2_with fail
    go_quiet (fail)
    go_wp2
    go_ret
    exact ⟨ret_int hf.out.symm, HB.out _⟩

set_option maxRecDepth 100000 in
set_option maxHeartbeats 1600000 in
theorem impl_ofCtor (xs : List Dt) (hw : WorldOK xs) (tab : List Int) (htab : Small xs.length tab) (d i k : Nat) (hd : d < xs.length) (hi : i < 4) (hk : k < xs[d].ctors.length) (w : World) (v : Value) (F : List Nat) (g : Nat) (hx : Arr w (DtR w) xs v F) (hf : Under w.heap.size F) (hy : Tab w g tab) :
    Calls Try.prog 123 #[.pointer (some ⟨g, 0, none⟩), v, .agg #[.int .i64 (d : Int), .int .i64 (i : Int)], .int .i64 (k : Int)] w fun e w' => e = .returned (.int .i64 (mostIn xs tab ⟨(d : Int), (i : Int)⟩ (k : Int))) ∧ Below w.heap.size w w' := by
  have hmi : mostIn xs tab ⟨(d : Int), (i : Int)⟩ (k : Int) = mostGo tab 0 (argsL xs[d].ctors[k] (i : Int)) := by unfold mostIn; rw [argsOf_get hd hk]
  rw [hmi]
  clear hmi
  have hin : ∀ a ∈ argsL xs[d].ctors[k] (i : Int), TyIn xs.length a := fun a ha => argTy_in (hw.ctor hd hk) (by omega) (by omega) ha
  have hlen : (argsL xs[d].ctors[k] (i : Int)).length ≤ 3 := by rw [argsL_len]; exact (hw.ctor hd hk).args
  have HL := Lib.hid (hw.ctor hd hk).args
  have hn4 := hw.len
  have hgl := Blk.lt hy
  obtain ⟨A, cap, rfl, hc1, hc2⟩ := hx.form
  have HIN := Lib.hid hin
  have HX := Lib.hid hx
  have HF := Lib.hid hf
  have HY := Lib.hid hy
  clear hx hf hy
  have HT := Lib.hid htab
  clear hin htab hw
  go_enter Try.func123, Try.ntmps123
  go_wp2_with fail
  have hB0 : Below w.heap.size w (w.alloc (.cells #[.int .i64 (d : Int), .int .i64 (i : Int)] 32)) := (Below.refl _ _).alloc (Nat.le_refl _) _
  refine (impl_argTypes xs d k (i : Int) hd hk _ _ F (ArrDt.below HX.out hB0 HF.out) (HF.out.mono hB0.size) HL.out).mono ?_
  rintro e w3 ⟨v3, F3, rfl, hb3, ha3, -, hfs3⟩
  have hB3 := hB0.trans (hb3.mono hB0.size)
  generalize hass : argsL xs[d].ctors[k] (i : Int) = ls at *
  have HASS := Lib.hid hass
  clear hass
  obtain ⟨A3, cap3, rfl, hd1, hd2⟩ := ha3.form
  have HA := Lib.hid ha3
  have HUA := Lib.hid hfs3.under
  clear ha3 hfs3 hb3 hB0
  go_wp2
  go_loopw [9, 18] (fun mv jv wr => ∃ j : Nat, ∃ m : Int, j ≤ ls.length ∧ jv = .int .i64 j ∧ mv = .int .i64 m ∧ 0 ≤ m ∧ m ≤ 100000 ∧ Hid (mostGo tab 0 ls = mostGo tab m (ls.drop j)) ∧ Below w.heap.size w wr ∧ Hid (Below w3.heap.size w3 wr)) (fun _ jv _ => ls.length - (intOf jv).toNat)
  case atStart => exact ⟨0, 0, Nat.zero_le _, rfl, rfl, by omega, by omega, (show mostGo tab 0 ls = mostGo tab 0 ls from rfl), hB3, Below.refl _ _⟩
  case round =>
    obtain ⟨j, m, hj, rfl, rfl, hm0, hm1, HM, hB, HB3⟩ := hrel
    by_cases hjl : j < ls.length
    · obtain ⟨b3, off3, rfl⟩ := HA.out.ptr (by omega)
      obtain ⟨hb4, a0, a1⟩ := ArrTy.at HA.out HUA.out HB3.out j hjl
      have g5 : (0 : Int) ≤ (j : Int) := by omega
      have g6 : (j : Int) < (ls.length : Int) := by omega
      have hstep := HM.out.trans (mostGo_step hjl)
      have HST := Lib.hid hstep
      have hbx : Below wr.heap.size wr (wr.alloc (.cells #[.int .i64 ls[j].d, .int .i64 ls[j].i] 32)) := (Below.refl _ _).alloc (Nat.le_refl _) _
      have hBx := hB.trans (hbx.mono hB.size)
      have HYx : Hid (Tab (wr.alloc (.cells #[.int .i64 ls[j].d, .int .i64 ls[j].i] 32)) g tab) := Blk.same HY.out (hBx.block _ hgl)
      clear hstep
      go_wp2_with fail
      refine (impl_of xs.length hn4 tab HT.out ls[j] (HIN.out _ (List.getElem_mem hjl)) _ g HYx.out).mono ?_
      rintro e w5 ⟨rfl, hb5⟩
      have hB5 := hBx.trans (hb5.mono hBx.size)
      have HB5 := Lib.hid ((HB3.out.trans (hbx.mono HB3.out.size)).trans (hb5.mono (HB3.out.trans (hbx.mono HB3.out.size)).size))
      have hdp := HT.out.dep ls[j]
      generalize hdd : depthIn tab ls[j] = q at *
      by_cases hq : q = 0
      · have t0 : (q == 0) = true := by simp [hq]
        have hf : Hid (mostGo tab 0 ls = 0) := by have h := HST.out; rw [if_pos hq] at h; exact h
        clear hdd hq
        go_wp2
        go_ret
        exact ⟨ret_int (by rw [HASS.out]; exact hf.out.symm), hB5⟩
      · have t0 : (q == 0) = false := by simpa using hq
        have h2 : mostGo tab 0 ls = mostGo tab (max m q) (ls.drop (j + 1)) := by have h := HST.out; rw [if_neg hq] at h; exact h
        clear hdd hq
        have HM2 := Lib.hid h2
        clear h2
        go_wp2
        go_roundw
        case rel => exact ⟨j + 1, max m q, by omega, by go_num, (by congr 1; omega), by omega, by omega, HM2, hB5, HB5⟩
        case measure => (simp [intOf] <;> omega)
    · have hf : Hid (mostGo tab 0 ls = m + 1) := by
        have h := HM.out
        rw [List.drop_of_length_le (by omega)] at h
        exact h
      go_wp2
      go_ret
      exact ⟨ret_int (by rw [HASS.out]; exact hf.out.symm), hB⟩
end Go.Proofs.Ytilndhmegaccmaa

namespace Go.Proofs.Ytilndhmegaccmaa
open Go.RowKit

/-- the table in sweep n, at slot s, when i constructors of it have been looked at -/
def St (xs : List Dt) (n s i : Nat) : List Int := slotGo xs s (sweepTo xs (sweeps xs n) s) ((ctorsL xs (tyAt s)).take i)
theorem St_zero (xs : List Dt) (n s : Nat) : St xs n s 0 = sweepTo xs (sweeps xs n) s := rfl
theorem St_step {xs : List Dt} {n s i : Nat} (h : i < (ctorsL xs (tyAt s)).length) : St xs n s (i + 1) = putIf (St xs n s i) s (mostIn xs (St xs n s i) (tyAt s) (ctorsL xs (tyAt s))[i]) := by
  unfold St; rw [take_snoc' _ i h, slotGo_snoc]
theorem St_all {xs : List Dt} {n s i : Nat} (h : (ctorsL xs (tyAt s)).length ≤ i) : St xs n s i = sweepTo xs (sweeps xs n) (s + 1) := by
  unfold St; rw [List.take_of_length_le h, sweepTo_succ]
theorem St_sound {xs : List Dt} (hw : WorldOK xs) {n s i : Nat} (hs : s < xs.length * 4) : Sound xs (St xs n s i) :=
  Sound.slot hw hs (fun k hk => List.mem_of_mem_take hk) ((sound_sweeps hw n).to hw (by omega))
theorem St_le {xs : List Dt} {n s i : Nat} (hs : s < xs.length * 4) : Le (sweeps xs n) (St xs n s i) :=
  (le_to xs _ s (by rw [sweeps_length]; omega)).trans (le_slot xs s _ _ (by rw [sweepTo_length, sweeps_length]; exact hs))
def MaxB (tab : List Int) (B : Int) : Prop := ∀ s, tab.getD s 0 ≤ B
theorem mostGo_max {tab : List Int} {B : Int} (h : MaxB tab B) (hB : 1 ≤ B) : ∀ {ls : List Ty} {m : Int}, m ≤ B → mostGo tab m ls ≤ B + 1
  | [], m, hm => by simp only [mostGo]; omega
  | a :: ls, m, hm => by
    simp only [mostGo]
    split
    · omega
    · refine mostGo_max h hB ?_
      have : depthIn tab a ≤ B := by
        unfold depthIn
        split
        · omega
        · exact h _
      omega
theorem put_max {xs : List Dt} {tab : List Int} {B : Int} (h : MaxB tab B) (hB : 1 ≤ B) (s : Nat) (k : Int) : MaxB (putIf tab s (mostIn xs tab (tyAt s) k)) (B + 1) := by
  intro r
  unfold putIf
  split
  · by_cases hs : s < tab.length
    · rw [getD_set _ _ _ _ hs]
      split
      · exact mostGo_max h hB (by omega)
      · have := h r; omega
    · rw [List.set_eq_of_length_le (by omega)]; have := h r; omega
  · have := h r; omega
theorem slot_max {xs : List Dt} (s : Nat) : ∀ (ks : List Int) {tab : List Int} {B : Int}, MaxB tab B → 1 ≤ B → MaxB (slotGo xs s tab ks) (B + ks.length)
  | [], tab, B, h, _ => fun r => by have := h r; simpa [slotGo_nil] using this
  | k :: ks, tab, B, h, hB => by
    rw [slotGo_cons]
    have := slot_max (xs := xs) s ks (put_max (xs := xs) h hB s k) (by omega)
    intro r
    have := this r
    simp only [List.length_cons]
    omega
theorem ctorsL_len {xs : List Dt} (hw : WorldOK xs) {s : Nat} (hs : s < xs.length * 4) : (ctorsL xs (tyAt s)).length ≤ 4 := by
  have hd : s / 4 < xs.length := by omega
  have e : ctorsL xs (tyAt s) = fitTo xs[s / 4].ctors ((s % 4 : Nat) : Int) xs[s / 4].ctors.length := ctorsL_data hd
  rw [e]
  exact Nat.le_trans (fitTo_len _ _ _) (hw.at hd).hi
theorem to_max {xs : List Dt} (hw : WorldOK xs) {tab : List Int} {B : Int} (h : MaxB tab B) (hB : 1 ≤ B) : ∀ {s : Nat}, s ≤ xs.length * 4 → MaxB (sweepTo xs tab s) (B + 4 * s)
  | 0, _ => fun r => by have := h r; simpa [sweepTo_zero] using this
  | s + 1, hs => by
    rw [sweepTo_succ]
    have h1 := slot_max (xs := xs) s (ctorsL xs (tyAt s)) (to_max hw h hB (s := s) (by omega)) (by omega)
    have h2 := ctorsL_len hw (s := s) (by omega)
    intro r
    have := h1 r
    omega
theorem sweeps_max {xs : List Dt} (hw : WorldOK xs) : ∀ n, MaxB (sweeps xs n) (1 + 64 * n)
  | 0 => fun r => by
    simp only [sweeps, List.getD]
    rcases Nat.lt_or_ge r (xs.length * 4) with h | h <;> simp [h]
  | n + 1 => fun r => by
    have h := to_max hw (sweeps_max hw n) (by omega) (Nat.le_refl (xs.length * 4)) r
    have hl := hw.len
    show (sweepTo xs (sweeps xs n) (xs.length * 4)).getD r 0 ≤ _
    omega
theorem St_small {xs : List Dt} (hw : WorldOK xs) {n s i : Nat} (hs : s < xs.length * 4) (hn : n ≤ 100) : Small xs.length (St xs n s i) := by
  have h1 := St_sound hw (n := n) (i := i) hs
  refine ⟨h1.len, h1.pos, fun r => ?_⟩
  have h2 := slot_max (xs := xs) s ((ctorsL xs (tyAt s)).take i) (to_max hw (sweeps_max hw n) (by omega) (s := s) (by omega)) (by omega) r
  have h3 := ctorsL_len hw hs
  have h4 : ((ctorsL xs (tyAt s)).take i).length ≤ 4 := by rw [List.length_take]; omega
  have hl := hw.len
  unfold St
  omega
theorem table_small {xs : List Dt} (hw : WorldOK xs) {n : Nat} (hn : n ≤ 100) : Small xs.length (sweeps xs n) := by
  have h1 := sound_sweeps hw n
  refine ⟨h1.len, h1.pos, fun r => ?_⟩
  have := sweeps_max hw n r
  omega
theorem getD_get {tab : List Int} {s : Nat} (h : s < tab.length) : tab.getD s 0 = tab[s] := by simp [List.getD, List.getElem?_eq_getElem h]

/-- a block of numbers, read as a slice -/
theorem Blk.nats {w : World} {g : Nat} {tab : List Int} (h : Blk w g 3 (cellsOf tab)) (hm : tab.length ≤ maxLen) : Arr w (NatR w) tab (.slice (some ⟨g, 0, none⟩) tab.length tab.length) [g] ∨ tab = [] := by
  by_cases he : tab = []
  · exact .inr he
  refine .inl ⟨_, _, rfl, Nat.le_refl _, hm, .inr ⟨g, 0, tab.map (Value.int .i64), [], rfl, fun j u hj => ?_, ?_, rfl⟩⟩
  · have hjl : j < tab.length := by have := (List.getElem?_eq_some_iff.1 hj).1; simpa using this
    rw [Nat.zero_add, h.cell, cellsOf_get hjl]
    rw [List.getElem?_map, List.getElem?_eq_getElem hjl] at hj
    simpa using hj
  · have : ∀ l : List Int, Flat (NatR w) l (l.map (Value.int .i64)) [] := by
      intro l
      induction l with
      | nil => exact ⟨rfl, rfl⟩
      | cons x l ih => exact ⟨[.int .i64 x], _, [], [], rfl, rfl, ⟨rfl, rfl⟩, ih⟩
    exact this tab

set_option maxRecDepth 100000 in
set_option maxHeartbeats 1600000 in
theorem spec_l1Table (xs : List Dt) (hw : WorldOK xs) (w : World) (v : Value) (F : List Nat) (hx : Arr w (DtR w) xs v F) (hf : Under w.heap.size F) :
    Calls Try.prog 84 #[v] w (MadeNats w (tableL xs)) := by
  obtain ⟨A, cap, rfl, hc1, hc2⟩ := hx.form
  have hn4 := hw.len
  have HW := Lib.hid hw
  have HX := Lib.hid hx
  have HF := Lib.hid hf
  clear hx hf
  clear hw
  obtain ⟨i0, hi, hz0, hz1, hz2⟩ := info_parts info_int
  have hmk : ∀ W : World, (Instr.makeSlice 106 (.int .i64 ((xs.length : Int) * 4)) (.int .i64 ((xs.length : Int) * 4))).run Try.prog W = .ok (.slice (some ⟨W.heap.size, 0, none⟩) (xs.length * 4) (xs.length * 4)) (W.alloc (.cells (cellsOf (sweeps xs 0)) 3)) := fun W => by
    have h := run_make_rowN (P := Try.prog) 106 3 i0 _ Try.underlying106 hi hz0 .i64 .i64 (xs.length * 4) (xs.length * 4) (Nat.le_refl _) (by rw [hz2]; omega) (by omega) W
    rw [hz1, show ((xs.length * 4 : Nat) : Int) = (xs.length : Int) * 4 by omega] at h
    rw [h]
    congr 2
    have e : (madeCells #[Value.int .i64 0] (xs.length * 4)).toList = (cellsOf (sweeps xs 0)).toList := by
      rw [toList_madeCells_one]
      unfold cellsOf
      simp [sweeps]
    show Obj.cells (madeCells #[Value.int .i64 0] (xs.length * 4 * 1)) _ _ = _
    rw [Nat.mul_one]
    congr 1
    exact Array.toList_inj.1 e
  clear hi hz0 hz1 hz2
  go_enter Try.func84, Try.ntmps84
  go_wp2
  clear hmk
  have hB0 : Below w.heap.size w (w.alloc (.cells (cellsOf (sweeps xs 0)) 3)) := (Below.refl _ _).alloc (Nat.le_refl _) _
  have HT0 : Hid (Blk (w.alloc (.cells (cellsOf (sweeps xs 0)) 3)) w.heap.size 3 (cellsOf (sweeps xs 0))) := Blk.new _ _ _
  go_loopw [4] (fun nv wr => ∃ n : Nat, n ≤ xs.length * 4 + 1 ∧ nv = .int .i64 n ∧ Hid (Blk wr w.heap.size 3 (cellsOf (sweeps xs n))) ∧ Below w.heap.size w wr) (fun nv _ => xs.length * 4 + 1 - (intOf nv).toNat)
  case atStart => exact ⟨0, Nat.zero_le _, rfl, HT0, hB0⟩
  case round =>
    clear hB0 HT0
    obtain ⟨n, hn, rfl, HT, hB⟩ := hrel
    by_cases hnl : n ≤ xs.length * 4
    · have t9 : decide ((n : Int) ≤ (xs.length : Int) * 4) = true := by simp; omega
      go_wp2
      clear t9
      obtain ⟨wo, hwo⟩ : ∃ wo : World, wo = wr := ⟨_, rfl⟩
      go_loopw [5] (fun sv ws => ∃ s : Nat, s ≤ xs.length * 4 ∧ sv = .int .i64 s ∧ Hid (Blk ws w.heap.size 3 (cellsOf (sweepTo xs (sweeps xs n) s))) ∧ Below w.heap.size w ws) (fun sv _ => xs.length * 4 - (intOf sv).toNat)
      case atStart => exact ⟨0, Nat.zero_le _, rfl, HT, hB⟩
      case round =>
        clear hwo HT hB
        obtain ⟨s, hs, rfl, HT, hB⟩ := hrel
        by_cases hsl : s < xs.length * 4
        · obtain ⟨q, hq⟩ : ∃ q : Nat, q = s / 4 := ⟨_, rfl⟩
          obtain ⟨r, hr⟩ : ∃ r : Nat, r = s % 4 := ⟨_, rfl⟩
          have hsq : s = q * 4 + r := by omega
          have hql : q < xs.length := by omega
          have hrl : r < 4 := by omega
          have eq : (s : Int) / 4 = (q : Int) := by omega
          have er : (s : Int) % 4 = (r : Int) := by omega
          have hty : tyAt s = ⟨(q : Int), (r : Int)⟩ := by rw [hsq]; exact tyAt_mk hrl
          have HTY := Lib.hid hty
          have HSQ := Lib.hid hsq
          clear hq hr hty hsq
          have hgl := HT.out.lt
          have hbx : Below wr.heap.size wr (wr.alloc (.cells #[.int .i64 (q : Int), .int .i64 (r : Int)] 32)) := (Below.refl _ _).alloc (Nat.le_refl _) _
          have hBx := hB.trans (hbx.mono hB.size)
          have HTx : Hid (Blk (wr.alloc (.cells #[.int .i64 (q : Int), .int .i64 (r : Int)] 32)) w.heap.size 3 (cellsOf (sweepTo xs (sweeps xs n) s))) := HT.out.same (hbx.block _ hgl)
          have KXx : Hid (Blk (wr.alloc (.cells #[.int .i64 (q : Int), .int .i64 (r : Int)] 32)) wr.heap.size 32 #[.int .i64 (q : Int), .int .i64 (r : Int)]) := Blk.new _ _ _
          go_wp2_with fail
          clear eq er
          refine (spec_l1Ctors xs ⟨(q : Int), (r : Int)⟩ _ _ F (ArrDt.below HX.out hBx HF.out) (HF.out.mono hBx.size) HW.out (.inr ⟨q, rfl, hql⟩)).mono ?_
          rintro e w3 ⟨v3, F3, rfl, hb3, ha3, -, hfs3⟩
          have hB3 := hBx.trans (hb3.mono hBx.size)
          have HT3 := Lib.hid (HTx.out.same (hb3.block _ HTx.out.lt))
          have KX3 := Lib.hid (KXx.out.same (hb3.block _ KXx.out.lt))
          rw [← HTY.out] at ha3
          obtain ⟨A3, cap3, rfl, hd1, hd2⟩ := ha3.form
          have HA3 := Lib.hid ha3
          have HU3 := Lib.hid hfs3.under
          have hgx : wr.heap.size < (wr.alloc (.cells #[.int .i64 (q : Int), .int .i64 (r : Int)] 32)).heap.size := by simp
          have HN3 : Hid (w.heap.size ∉ F3) := fun h => by have := (hfs3 _ h).1; omega
          have HS0 : Hid (Blk w3 w.heap.size 3 (cellsOf (St xs n s 0))) := HT3
          have hne : w.heap.size ≠ wr.heap.size := by omega
          have hbt := wr.heap.size
          generalize hbte : wr.heap.size = bt at *
          have HNE := Lib.hid hne
          clear hbt hbte ha3 hfs3 hb3 hgx HT3 HTx KXx hbx hBx hB HT hne hgl
          go_wp2
          obtain ⟨wo, hwo⟩ : ∃ wo : World, wo = w3 := ⟨_, rfl⟩
          go_loopw [8] (fun iv ws => ∃ i : Nat, i ≤ (ctorsL xs (tyAt s)).length ∧ iv = .int .i64 i ∧ Hid (Blk ws w.heap.size 3 (cellsOf (St xs n s i))) ∧ Hid (Blk ws bt 32 #[.int .i64 (q : Int), .int .i64 (r : Int)]) ∧ Hid (Arr ws (NatR ws) (ctorsL xs (tyAt s)) (.slice A3 (ctorsL xs (tyAt s)).length cap3) F3 ∧ Under ws.heap.size F3) ∧ Below w.heap.size w ws) (fun iv _ => (ctorsL xs (tyAt s)).length - (intOf iv).toNat)
          case atStart => exact ⟨0, Nat.zero_le _, rfl, HS0, KX3, ⟨HA3.out, HU3.out⟩, hB3⟩
          case round =>
            clear hwo HS0 KX3 HA3 HU3 hB3
            obtain ⟨i, hi, rfl, HS, KX, HA, hB⟩ := hrel
            have hgl := HS.out.lt
            have hbl := KX.out.lt
            by_cases hil : i < (ctorsL xs (tyAt s)).length
            · obtain ⟨b7, off7, rfl⟩ := HA.out.1.ptr (by omega)
              obtain ⟨hb7, c7⟩ := ArrNat.at HA.out.1 HA.out.2 (Below.refl _ _) i hil
              obtain ⟨d', k, e1, hki, hd', hk'⟩ := mem_ctorsL (xs := xs) (t := tyAt s) (by rw [HTY.out]; exact .inr ⟨q, rfl, hql⟩) (List.getElem_mem hil)
              rw [HTY.out] at e1
              obtain rfl : q = d' := Int.ofNat.inj e1
              rw [hki] at c7
              have hstep := St_step (n := n) hil
              have hmo : mostIn xs (St xs n s i) (tyAt s) (ctorsL xs (tyAt s))[i] = mostIn xs (St xs n s i) ⟨(q : Int), (r : Int)⟩ (k : Int) := by rw [hki]; exact congrArg (fun t => mostIn xs (St xs n s i) t (k : Int)) HTY.out
              rw [hmo] at hstep
              have HST := Lib.hid hstep
              clear hstep hmo e1 hki
              have hsm := St_small HW.out (n := n) (i := i) hsl (by omega)
              have hsll : s < (St xs n s i).length := by rw [hsm.len]; exact hsl
              have hnat := (HS.out.nats (by rw [hsm.len]; unfold maxLen; omega)).resolve_right (fun e => by rw [e] at hsll; simp at hsll)
              rw [hsm.len] at hnat
              have HNAT := Lib.hid hnat
              have HSM := Lib.hid hsm
              have HUG : Hid (Under wr.drew.heap.size [w.heap.size]) := fun b hb => by rw [List.mem_singleton] at hb; rw [hb]; exact hgl
              clear hnat hsm
              have y0 : wr.cell? ⟨bt, 0, none⟩ = some (.int .i64 (q : Int)) := (KX.out.cell 0).trans (by simp)
              have y1 : wr.cell? ⟨bt, 1, none⟩ = some (.int .i64 (r : Int)) := (KX.out.cell 1).trans (by simp)
              have g1 : (0 : Int) ≤ (i : Int) := by omega
              have g2 : (i : Int) < ((ctorsL xs (tyAt s)).length : Int) := by omega
              go_wp2_with fail
              have hkeep : ∀ U U' : World, (U.cell? ⟨bt, 0, none⟩ = some (.int .i64 (q : Int)) ∧ U.cell? ⟨bt, 1, none⟩ = some (.int .i64 (r : Int)) ∧ U.cell? ⟨b7, off7 + i, none⟩ = some (.int .i64 (k : Int))) → Below U.heap.size U U' → wr.heap.size ≤ U.heap.size → (U'.cell? ⟨bt, 0, none⟩ = some (.int .i64 (q : Int)) ∧ U'.cell? ⟨bt, 1, none⟩ = some (.int .i64 (r : Int)) ∧ U'.cell? ⟨b7, off7 + i, none⟩ = some (.int .i64 (k : Int))) := fun U U' h hUU hU => ⟨(hUU.cell (Nat.lt_of_lt_of_le (hbl) hU)).trans h.1, (hUU.cell (Nat.lt_of_lt_of_le (hbl) hU)).trans h.2.1, (hUU.cell (Nat.lt_of_lt_of_le (hb7) hU)).trans h.2.2⟩
              have HKeep := Lib.hid hkeep
              clear hkeep
              go_region_held3 (fun w' => w'.cell? ⟨bt, 0, none⟩ = some (.int .i64 (q : Int)) ∧ w'.cell? ⟨bt, 1, none⟩ = some (.int .i64 (r : Int)) ∧ w'.cell? ⟨b7, off7 + i, none⟩ = some (.int .i64 (k : Int))) (first | assumption | (exact ⟨y0, y1, c7⟩) | (exact HKeep.out wr.drew w' ⟨y0, y1, c7⟩ hB' (Nat.le_refl _))) (first | (go_at_call 126; ((with_reducible refine (spec_l1Most xs HW.out (St xs n s i) HSM.out q r k hql hrl hk' _ _ _ F [w.heap.size] (ArrDt.below HX.out hB.drew HF.out) (HF.out.mono hB.drew.size) (ArrNat.drew HNAT.out) HUG.out).mono ?_); rintro e w' ⟨rfl, hB'⟩)))
              have hB5 := hB.drew.trans (hB'.mono hB.size)
              have HS5 := Lib.hid (HS.out.same (hB'.block _ hgl))
              have KX5 := Lib.hid (KX.out.same (hB'.block _ hbl))
              have HA5 : Hid (Arr w' (NatR w') (ctorsL xs (tyAt s)) (.slice (some ⟨b7, off7, none⟩) (ctorsL xs (tyAt s)).length cap3) F3 ∧ Under w'.heap.size F3) := ⟨ArrNat.below (w := wr) HA.out.1 (below_undrew hB') HA.out.2, HA.out.2.mono hB'.size⟩
              clear HKeep HNAT c7 y0 y1
              have z0 : w'.cell? ⟨w.heap.size, s, none⟩ = some (.int .i64 (St xs n s i)[s]) := (HS5.out.cell s).trans (cellsOf_get hsll)
              have zf := HS5.out.frozen s
              have hgl5 := HS5.out.lt
              have g3 : (0 : Int) ≤ (s : Int) := by omega
              have g4 : (s : Int) < (xs.length : Int) * 4 := by omega
              have hbet : better (St xs n s i) s (mostIn xs (St xs n s i) ⟨(q : Int), (r : Int)⟩ (k : Int)) = (decide (0 < mostIn xs (St xs n s i) ⟨(q : Int), (r : Int)⟩ (k : Int)) && (decide ((St xs n s i)[s] = 0) || decide (mostIn xs (St xs n s i) ⟨(q : Int), (r : Int)⟩ (k : Int) < (St xs n s i)[s]))) := by
                unfold better; rw [getD_get hsll]
              generalize hm : mostIn xs (St xs n s i) ⟨(q : Int), (r : Int)⟩ (k : Int) = m at *
              have HMM := Lib.hid hm
              generalize hold : (St xs n s i)[s] = old at *
              have HOLD := Lib.hid hold
              clear hm hold
              by_cases h0 : 0 < m
              · have t0 : decide (m > 0) = true := by simpa using h0
                by_cases h1 : old = 0
                · have t1 : (old == 0) = true := by simp [h1]
                  have hb1 : better (St xs n s i) s m = true := by rw [hbet, decide_eq_true h0, decide_eq_true h1]; rfl
                  clear hbet h1
                  have HS6 : Hid (Blk (w'.setCell ⟨w.heap.size, s, none⟩ (.int .i64 m)) w.heap.size 3 (cellsOf (St xs n s (i + 1)))) := by
                    have h := HS5.out.set_ s (.int .i64 m)
                    rw [cellsOf_set, ← putIf_yes hb1, ← HST.out] at h
                    exact h
                  have KX6 : Hid (Blk (w'.setCell ⟨w.heap.size, s, none⟩ (.int .i64 m)) bt 32 #[.int .i64 (q : Int), .int .i64 (r : Int)]) := KX5.out.same (Below.heap_setCell _ _ _ _ (fun e => HNE.out e.symm))
                  have HA6 : Hid (Arr (w'.setCell ⟨w.heap.size, s, none⟩ (.int .i64 m)) (NatR (w'.setCell ⟨w.heap.size, s, none⟩ (.int .i64 m))) (ctorsL xs (tyAt s)) (.slice (some ⟨b7, off7, none⟩) (ctorsL xs (tyAt s)).length cap3) F3 ∧ Under (w'.setCell ⟨w.heap.size, s, none⟩ (.int .i64 m)).heap.size F3) := ⟨ArrNat.kept HA5.out.1 (Kept.set (Kept.refl _ _) HN3.out), HA5.out.2.mono (by simp [World.setCell])⟩
                  have hB6 : Below w.heap.size w (w'.setCell ⟨w.heap.size, s, none⟩ (.int .i64 m)) := hB5.setCell (Nat.le_refl _) _
                  clear hb1
                  go_wp2
                  go_roundw
                  case rel => exact ⟨i + 1, by omega, by go_num, HS6, KX6, HA6, hB6⟩
                  case measure => (simp [intOf] <;> omega)
                · have t1 : (old == 0) = false := by simpa using h1
                  by_cases h2 : m < old
                  · have hb1 : better (St xs n s i) s m = true := by rw [hbet, decide_eq_true h0, decide_eq_true h2, Bool.or_true]; rfl
                    clear hbet h1
                    have HS6 : Hid (Blk (w'.setCell ⟨w.heap.size, s, none⟩ (.int .i64 m)) w.heap.size 3 (cellsOf (St xs n s (i + 1)))) := by
                      have h := HS5.out.set_ s (.int .i64 m)
                      rw [cellsOf_set, ← putIf_yes hb1, ← HST.out] at h
                      exact h
                    have KX6 : Hid (Blk (w'.setCell ⟨w.heap.size, s, none⟩ (.int .i64 m)) bt 32 #[.int .i64 (q : Int), .int .i64 (r : Int)]) := KX5.out.same (Below.heap_setCell _ _ _ _ (fun e => HNE.out e.symm))
                    have HA6 : Hid (Arr (w'.setCell ⟨w.heap.size, s, none⟩ (.int .i64 m)) (NatR (w'.setCell ⟨w.heap.size, s, none⟩ (.int .i64 m))) (ctorsL xs (tyAt s)) (.slice (some ⟨b7, off7, none⟩) (ctorsL xs (tyAt s)).length cap3) F3 ∧ Under (w'.setCell ⟨w.heap.size, s, none⟩ (.int .i64 m)).heap.size F3) := ⟨ArrNat.kept HA5.out.1 (Kept.set (Kept.refl _ _) HN3.out), HA5.out.2.mono (by simp [World.setCell])⟩
                    have hB6 : Below w.heap.size w (w'.setCell ⟨w.heap.size, s, none⟩ (.int .i64 m)) := hB5.setCell (Nat.le_refl _) _
                    clear hb1
                    go_wp2
                    go_roundw
                    case rel => exact ⟨i + 1, by omega, by go_num, HS6, KX6, HA6, hB6⟩
                    case measure => (simp [intOf] <;> omega)
                  · have hb1 : better (St xs n s i) s m = false := by rw [hbet, decide_eq_false h1, decide_eq_false h2]; simp
                    clear hbet h1
                    have HS6 : Hid (Blk w' w.heap.size 3 (cellsOf (St xs n s (i + 1)))) := by
                      have h := HS5.out
                      rw [← movedB_not hb1, ← HST.out] at h
                      exact h
                    clear hb1
                    go_wp2
                    go_roundw
                    case rel => exact ⟨i + 1, by omega, by go_num, HS6, KX5, HA5, hB5⟩
                    case measure => (simp [intOf] <;> omega)
              · have t0 : decide (m > 0) = false := by simp; omega
                have hb1 : better (St xs n s i) s m = false := by rw [hbet, decide_eq_false h0]; rfl
                clear hbet
                have HS6 : Hid (Blk w' w.heap.size 3 (cellsOf (St xs n s (i + 1)))) := by
                  have h := HS5.out
                  rw [← movedB_not hb1, ← HST.out] at h
                  exact h
                clear hb1
                go_wp2
                go_roundw
                case rel => exact ⟨i + 1, by omega, by go_num, HS6, KX5, HA5, hB5⟩
                case measure => (simp [intOf] <;> omega)
            · have HT2 : Hid (Blk wr w.heap.size 3 (cellsOf (sweepTo xs (sweeps xs n) (s + 1)))) := by
                have h := HS.out
                rw [St_all (by omega)] at h
                exact h
              go_wp2
              go_roundw
              case rel => exact ⟨s + 1, by omega, by go_num, HT2, hB⟩
              case measure => (simp [intOf] <;> omega)
        · have HT2 : Hid (Blk wr w.heap.size 3 (cellsOf (sweeps xs (n + 1)))) := by
            have h := HT.out
            rw [show s = xs.length * 4 by omega] at h
            exact h
          go_wp2
          go_roundw
          case rel => exact ⟨n + 1, by omega, by go_num, HT2, hB⟩
          case measure => (simp [intOf] <;> omega)
    · have hfin : MadeNats w (tableL xs) (.returned (.slice (some ⟨w.heap.size, 0, none⟩) (xs.length * 4) (xs.length * 4))) wr := by
        have h := HT.out
        rw [show n = xs.length * 4 + 1 by omega] at h
        have hl : (tableL xs).length = xs.length * 4 := sweeps_length xs _
        rcases Blk.nats (tab := tableL xs) h (by rw [hl]; unfold maxLen; omega) with h1 | h1
        · rw [hl] at h1
          exact ⟨_, [w.heap.size], rfl, hB, h1, ⟨by simp, fun b hb i => by rw [List.mem_singleton] at hb; rw [hb]; exact h.frozen i⟩, fun b hb => by rw [List.mem_singleton] at hb; rw [hb]; exact ⟨Nat.le_refl _, h.lt⟩⟩
        · rw [h1] at hl
          refine ⟨_, [], rfl, hB, ⟨some ⟨w.heap.size, 0, none⟩, xs.length * 4, ?_, ?_, ?_, .inl ⟨h1, rfl⟩⟩, Free.nil _, Fresh.nil _ _⟩
          · rw [h1, ← hl]
          · rw [h1]; simp
          · unfold maxLen; omega
      have HFin := Lib.hid hfin
      clear hfin
      go_wp2
      go_ret
      exact HFin.out
end Go.Proofs.Ytilndhmegaccmaa

namespace Go.Proofs.Ytilndhmegaccmaa
open Go.RowKit

theorem Tab.same {w w' : World} {g : Nat} {tab : List Int} (h : Tab w g tab) (e : w'.heap[g]? = w.heap[g]?) : Tab w' g tab := Blk.same h e
theorem Tab.lt {w : World} {g : Nat} {tab : List Int} (h : Tab w g tab) : g < w.heap.size := Blk.lt h
theorem Tab.set {w : World} {g : Nat} {tab : List Int} (h : Tab w g tab) {s : Nat} (hs : s < tab.length) (n : Int) : Tab (w.setCell ⟨g, s, none⟩ (.int .i64 n)) g (tab.set s n) := by
  have h1 := Blk.set_ h s (.int .i64 n)
  rw [cellsOf_set, pad_set hs] at h1
  exact h1
theorem sweeps_zero_pad {xs : List Dt} (h : xs.length ≤ 4) : pad (sweeps xs 0) = List.replicate 16 0 := by
  unfold pad
  simp only [sweeps, List.length_replicate]
  rw [List.replicate_append_replicate]
  congr 1
  omega
/-- the call gives a pointer to a table of its own -/
def GivesTab (xs : List Dt) (w : World) (e : Ending) (w' : World) : Prop := ∃ g, e = .returned (.pointer (some ⟨g, 0, none⟩)) ∧ w.heap.size ≤ g ∧ Tab w' g (tableL xs) ∧ Below w.heap.size w w'

set_option maxRecDepth 100000 in
set_option maxHeartbeats 1600000 in
theorem impl_depthsOf (xs : List Dt) (hw : WorldOK xs) (w : World) (v : Value) (F : List Nat) (hx : Arr w (DtR w) xs v F) (hf : Under w.heap.size F) :
    Calls Try.prog 79 #[v] w (GivesTab xs w) := by
  obtain ⟨A, cap, rfl, hc1, hc2⟩ := hx.form
  have hn4 := hw.len
  have HW := Lib.hid hw
  have HX := Lib.hid hx
  have HF := Lib.hid hf
  clear hx hf
  clear hw
  go_enter Try.func79, Try.ntmps79
  go_wp2
  have hB0 : Below w.heap.size w (w.alloc (.cells #[.int .i64 0, .int .i64 0, .int .i64 0, .int .i64 0, .int .i64 0, .int .i64 0, .int .i64 0, .int .i64 0, .int .i64 0, .int .i64 0, .int .i64 0, .int .i64 0, .int .i64 0, .int .i64 0, .int .i64 0, .int .i64 0] 158)) := (Below.refl _ _).alloc (Nat.le_refl _) _
  have HT0 : Hid (Tab (w.alloc (.cells #[.int .i64 0, .int .i64 0, .int .i64 0, .int .i64 0, .int .i64 0, .int .i64 0, .int .i64 0, .int .i64 0, .int .i64 0, .int .i64 0, .int .i64 0, .int .i64 0, .int .i64 0, .int .i64 0, .int .i64 0, .int .i64 0] 158)) w.heap.size (sweeps xs 0)) := by
    unfold Hid Tab
    rw [sweeps_zero_pad hn4]
    exact Blk.new _ _ _
  go_loopg [4] (xs.length * 4 + 3) (fun gk cv wr => ∃ m : Nat, ∃ c : Bool, m + gk = xs.length * 4 + 3 ∧ cv = .bool c ∧ Hid (c = false → sweep xs (sweeps xs m) = sweeps xs m) ∧ (c = true → m ≤ xs.length * 4 + 1) ∧ Hid (Tab wr w.heap.size (sweeps xs m)) ∧ Below w.heap.size w wr)
  case atStart => exact ⟨0, true, by omega, rfl, (fun h => by cases h), (fun _ => by omega), HT0, hB0⟩
  case round =>
    clear hB0 HT0
    obtain ⟨m, c, hmk, rfl, HFX, hmc, HT, hB⟩ := hrel
    cases c with
    | false =>
      have hfin : GivesTab xs w (.returned (.pointer (some ⟨w.heap.size, 0, none⟩))) wr := ⟨_, rfl, Nat.le_refl _, by rw [← fix_table HW.out (HFX.out rfl)]; exact HT.out, hB⟩
      have HFin := Lib.hid hfin
      clear hfin hmc
      go_wp2
      go_ret
      exact HFin.out
    | true =>
      have hm1 := hmc rfl
      clear hmc HFX
      go_wp2
      obtain ⟨wo, hwo⟩ : ∃ wo : World, wo = wr := ⟨_, rfl⟩
      go_loopw [4, 16] (fun cv qv ws => ∃ q : Nat, q ≤ xs.length ∧ qv = .int .i64 q ∧ cv = .bool (movedB (sweeps xs m) (sweepTo xs (sweeps xs m) (q * 4))) ∧ Hid (Tab ws w.heap.size (sweepTo xs (sweeps xs m) (q * 4))) ∧ Below w.heap.size w ws) (fun _ qv _ => xs.length - (intOf qv).toNat)
      case atStart => exact ⟨0, Nat.zero_le _, rfl, (by rw [show (0 : Nat) * 4 = 0 from rfl, sweepTo_zero, movedB_refl]), HT, hB⟩
      case round =>
        clear hwo HT hB
        obtain ⟨q, hq, rfl, rfl, HT, hB⟩ := hrel
        by_cases hql : q < xs.length
        · have g1 : (0 : Int) ≤ (q : Int) := by omega
          have g2 : (q : Int) < (xs.length : Int) := by omega
          generalize hcv : movedB (sweeps xs m) (sweepTo xs (sweeps xs m) (q * 4)) = cb
          have HCV := Lib.hid hcv
          clear hcv
          go_wp2
          obtain ⟨wo, hwo⟩ : ∃ wo : World, wo = wr := ⟨_, rfl⟩
          go_loopw [4, 6] (fun cv rv ws => ∃ r : Nat, ∃ c : Bool, r ≤ 4 ∧ rv = .int .i64 r ∧ cv = .bool c ∧ Hid (movedB (sweeps xs m) (sweepTo xs (sweeps xs m) (q * 4 + r)) = c) ∧ Hid (Tab ws w.heap.size (sweepTo xs (sweeps xs m) (q * 4 + r))) ∧ Below w.heap.size w ws) (fun _ rv _ => 4 - (intOf rv).toNat)
          case atStart => exact ⟨0, cb, Nat.zero_le _, rfl, rfl, HCV, HT, hB⟩
          case round =>
            clear hwo HT hB HCV
            obtain ⟨r, c, hr, rfl, rfl, HCV, HT, hB⟩ := hrel
            by_cases hrl : r < 4
            · have hty : tyAt (q * 4 + r) = ⟨(q : Int), (r : Int)⟩ := tyAt_mk hrl
              have HTY := Lib.hid hty
              clear hty
              have hsl : q * 4 + r < xs.length * 4 := by omega
              have t9 : decide ((r : Int) ≤ 3) = true := by simp; omega
              have hgl := HT.out.lt
              have hbx : Below wr.heap.size wr (wr.alloc (.cells #[.int .i64 (q : Int), .int .i64 (r : Int)] 32)) := (Below.refl _ _).alloc (Nat.le_refl _) _
              have hBx := hB.trans (hbx.mono hB.size)
              have HTx : Hid (Tab (wr.alloc (.cells #[.int .i64 (q : Int), .int .i64 (r : Int)] 32)) w.heap.size (sweepTo xs (sweeps xs m) (q * 4 + r))) := HT.out.same (hbx.block _ hgl)
              have KXx : Hid (Blk (wr.alloc (.cells #[.int .i64 (q : Int), .int .i64 (r : Int)] 32)) wr.heap.size 32 #[.int .i64 (q : Int), .int .i64 (r : Int)]) := Blk.new _ _ _
              go_wp2_with fail
              clear t9
              refine (impl_ctorsOf xs ⟨(q : Int), (r : Int)⟩ _ _ F (ArrDt.below HX.out hBx HF.out) (HF.out.mono hBx.size) HW.out (.inr ⟨q, rfl, hql⟩)).mono ?_
              rintro e w3 ⟨v3, F3, rfl, hb3, ha3, -, hfs3⟩
              have hB3 := hBx.trans (hb3.mono hBx.size)
              have HT3 := Lib.hid (HTx.out.same (hb3.block _ HTx.out.lt))
              have KX3 := Lib.hid (KXx.out.same (hb3.block _ KXx.out.lt))
              rw [← HTY.out] at ha3
              obtain ⟨A3, cap3, rfl, hd1, hd2⟩ := ha3.form
              have HA3 := Lib.hid ha3
              have HU3 := Lib.hid hfs3.under
              have hgx : wr.heap.size < (wr.alloc (.cells #[.int .i64 (q : Int), .int .i64 (r : Int)] 32)).heap.size := by simp
              have HN3 : Hid (w.heap.size ∉ F3) := fun h => by have := (hfs3 _ h).1; omega
              have HS0 : Hid (Tab w3 w.heap.size (St xs m (q * 4 + r) 0)) := HT3
              have HC0 : Hid (movedB (sweeps xs m) (St xs m (q * 4 + r) 0) = c) := HCV
              have hne : w.heap.size ≠ wr.heap.size := by omega
              have hbt := wr.heap.size
              generalize hbte : wr.heap.size = bt at *
              have HNE := Lib.hid hne
              clear hbt hbte ha3 hfs3 hb3 hgx HT3 HTx KXx hbx hBx hB HT hne hgl HCV
              generalize hse : q * 4 + r = s at *
              have HSE := Lib.hid hse
              clear hse
              go_wp2
              obtain ⟨wo, hwo⟩ : ∃ wo : World, wo = w3 := ⟨_, rfl⟩
              go_loopw [4, 30] (fun cv iv ws => ∃ i : Nat, ∃ c : Bool, i ≤ (ctorsL xs (tyAt s)).length ∧ iv = .int .i64 i ∧ cv = .bool c ∧ Hid (movedB (sweeps xs m) (St xs m s i) = c) ∧ Hid (Tab ws w.heap.size (St xs m s i)) ∧ Hid (Blk ws bt 32 #[.int .i64 (q : Int), .int .i64 (r : Int)]) ∧ Hid (Arr ws (NatR ws) (ctorsL xs (tyAt s)) (.slice A3 (ctorsL xs (tyAt s)).length cap3) F3 ∧ Under ws.heap.size F3) ∧ Below w.heap.size w ws) (fun _ iv _ => (ctorsL xs (tyAt s)).length - (intOf iv).toNat)
              case atStart => exact ⟨0, c, Nat.zero_le _, rfl, rfl, HC0, HS0, KX3, ⟨HA3.out, HU3.out⟩, hB3⟩
              case round =>
                clear hwo HS0 KX3 HA3 HU3 hB3 HC0
                obtain ⟨i, c, hi, rfl, rfl, HC, HS, KX, HA, hB⟩ := hrel
                have hgl := HS.out.lt
                have hbl := KX.out.lt
                by_cases hil : i < (ctorsL xs (tyAt s)).length
                · obtain ⟨b7, off7, rfl⟩ := HA.out.1.ptr (by omega)
                  obtain ⟨hb7, c7⟩ := ArrNat.at HA.out.1 HA.out.2 (Below.refl _ _) i hil
                  obtain ⟨d', k, e1, hki, hd', hk'⟩ := mem_ctorsL (xs := xs) (t := tyAt s) (by rw [HTY.out]; exact .inr ⟨q, rfl, hql⟩) (List.getElem_mem hil)
                  rw [HTY.out] at e1
                  obtain rfl : q = d' := Int.ofNat.inj e1
                  rw [hki] at c7
                  have hstep := St_step (n := m) hil
                  have hmo : mostIn xs (St xs m s i) (tyAt s) (ctorsL xs (tyAt s))[i] = mostIn xs (St xs m s i) ⟨(q : Int), (r : Int)⟩ (k : Int) := by rw [hki]; exact congrArg (fun t => mostIn xs (St xs m s i) t (k : Int)) HTY.out
                  rw [hmo] at hstep
                  have HST := Lib.hid hstep
                  clear hstep hmo e1 hki
                  have hsm := St_small HW.out (n := m) (i := i) hsl (by omega)
                  have hsll : s < (St xs m s i).length := by rw [hsm.len]; exact hsl
                  have HSM := Lib.hid hsm
                  clear hsm
                  have y0 : wr.cell? ⟨bt, 0, none⟩ = some (.int .i64 (q : Int)) := (KX.out.cell 0).trans (by simp)
                  have y1 : wr.cell? ⟨bt, 1, none⟩ = some (.int .i64 (r : Int)) := (KX.out.cell 1).trans (by simp)
                  have p1 : (0 : Int) ≤ (i : Int) := by omega
                  have p2 : (i : Int) < ((ctorsL xs (tyAt s)).length : Int) := by omega
                  go_wp2_with fail
                  refine (impl_ofCtor xs HW.out (St xs m s i) HSM.out q r k hql hrl hk' wr _ F w.heap.size (ArrDt.below HX.out hB HF.out) (HF.out.mono hB.size) HS.out).mono ?_
                  rintro e w5 ⟨rfl, hb5⟩
                  have hB5 := hB.trans (hb5.mono hB.size)
                  have HS5 := Lib.hid (HS.out.same (hb5.block _ hgl))
                  have KX5 := Lib.hid (KX.out.same (hb5.block _ hbl))
                  have HA5 : Hid (Arr w5 (NatR w5) (ctorsL xs (tyAt s)) (.slice (some ⟨b7, off7, none⟩) (ctorsL xs (tyAt s)).length cap3) F3 ∧ Under w5.heap.size F3) := ⟨ArrNat.below HA.out.1 hb5 HA.out.2, HA.out.2.mono hb5.size⟩
                  clear c7 y0 y1 hb5
                  have HDI : Hid (depthIn (St xs m s i) ⟨(q : Int), (r : Int)⟩ = (St xs m s i)[s]) := by
                    have e := HSE.out
                    subst e
                    exact depthIn_data hsll
                  have hdp := HSM.out.dep ⟨(q : Int), (r : Int)⟩
                  rw [HDI.out] at hdp
                  have hbet : better (St xs m s i) s (mostIn xs (St xs m s i) ⟨(q : Int), (r : Int)⟩ (k : Int)) = (decide (0 < mostIn xs (St xs m s i) ⟨(q : Int), (r : Int)⟩ (k : Int)) && (decide ((St xs m s i)[s] = 0) || decide (mostIn xs (St xs m s i) ⟨(q : Int), (r : Int)⟩ (k : Int) < (St xs m s i)[s]))) := by
                    unfold better; rw [getD_get hsll]
                  generalize hm : mostIn xs (St xs m s i) ⟨(q : Int), (r : Int)⟩ (k : Int) = n at *
                  have HMM := Lib.hid hm
                  generalize hold : (St xs m s i)[s] = old at *
                  have HOLD := Lib.hid hold
                  clear hm hold
                  have y0 : w5.cell? ⟨bt, 0, none⟩ = some (.int .i64 (q : Int)) := (KX5.out.cell 0).trans (by simp)
                  have y1 : w5.cell? ⟨bt, 1, none⟩ = some (.int .i64 (r : Int)) := (KX5.out.cell 1).trans (by simp)
                  have hb5l := KX5.out.lt
                  have hg5l := HS5.out.lt
                  by_cases h0 : 0 < n
                  · have t0 : decide (n > 0) = true := by simpa using h0
                    go_wp2_with fail
                    refine (impl_of xs.length hn4 (St xs m s i) HSM.out ⟨(q : Int), (r : Int)⟩ (.inr ⟨q, r, rfl, hql, hrl⟩) _ w.heap.size HS5.out).mono ?_
                    rintro e w6 ⟨rfl, hb6⟩
                    rw [HDI.out]
                    have hB6 := hB5.trans (hb6.mono hB5.size)
                    have HS6 := Lib.hid (HS5.out.same (hb6.block _ HS5.out.lt))
                    have KX6 := Lib.hid (KX5.out.same (hb6.block _ KX5.out.lt))
                    have HA6 : Hid (Arr w6 (NatR w6) (ctorsL xs (tyAt s)) (.slice (some ⟨b7, off7, none⟩) (ctorsL xs (tyAt s)).length cap3) F3 ∧ Under w6.heap.size F3) := ⟨ArrNat.below HA5.out.1 hb6 HA5.out.2, HA5.out.2.mono hb6.size⟩
                    clear hb6 y0 y1 hb5l hg5l
                    have y0 : w6.cell? ⟨bt, 0, none⟩ = some (.int .i64 (q : Int)) := (KX6.out.cell 0).trans (by simp)
                    have y1 : w6.cell? ⟨bt, 1, none⟩ = some (.int .i64 (r : Int)) := (KX6.out.cell 1).trans (by simp)
                    have hb5l := KX6.out.lt
                    have hg5l := HS6.out.lt
                    by_cases h1 : old = 0
                    · have t1 : (old == 0) = true := by simp [h1]
                      have hb1 : better (St xs m s i) s n = true := by rw [hbet, decide_eq_true h0, decide_eq_true h1]; rfl
                      clear hbet h1
                      have hsp := HSM.out.pos s
                      have HMV := Lib.hid (movedB_put (St_le hsl) hsll hb1 hsp)
                      have z0 : w6.cell? ⟨w.heap.size, q * 4 + r, none⟩ = some (.int .i64 old) := by rw [HSE.out, ← HOLD.out]; exact HS6.out.cell hsll
                      have zf : w6.frozen? ⟨w.heap.size, q * 4 + r, none⟩ = false := Blk.frozen HS6.out _
                      have HS9 : Hid (Tab (w6.setCell ⟨w.heap.size, q * 4 + r, none⟩ (.int .i64 n)) w.heap.size (St xs m s (i + 1))) := by
                        rw [HSE.out]
                        have h := HS6.out.set hsll n
                        rw [← putIf_yes hb1, ← HST.out] at h
                        exact h
                      have KX9 : Hid (Blk (w6.setCell ⟨w.heap.size, q * 4 + r, none⟩ (.int .i64 n)) bt 32 #[.int .i64 (q : Int), .int .i64 (r : Int)]) := KX6.out.same (Below.heap_setCell _ _ _ _ (fun e => HNE.out e.symm))
                      have HA9 : Hid (Arr (w6.setCell ⟨w.heap.size, q * 4 + r, none⟩ (.int .i64 n)) (NatR (w6.setCell ⟨w.heap.size, q * 4 + r, none⟩ (.int .i64 n))) (ctorsL xs (tyAt s)) (.slice (some ⟨b7, off7, none⟩) (ctorsL xs (tyAt s)).length cap3) F3 ∧ Under (w6.setCell ⟨w.heap.size, q * 4 + r, none⟩ (.int .i64 n)).heap.size F3) := ⟨ArrNat.kept HA6.out.1 (Kept.set (Kept.refl _ _) HN3.out), HA6.out.2.mono (by simp [World.setCell])⟩
                      have hB9 : Below w.heap.size w (w6.setCell ⟨w.heap.size, q * 4 + r, none⟩ (.int .i64 n)) := hB6.setCell (Nat.le_refl _) _
                      have HC9 : Hid (movedB (sweeps xs m) (St xs m s (i + 1)) = true) := by rw [HST.out]; exact HMV.out
                      clear hb1 hsp
                      go_wp2
                      go_roundw
                      case rel => exact ⟨i + 1, true, by omega, by go_num, rfl, HC9, HS9, KX9, HA9, hB9⟩
                      case measure => (simp [intOf] <;> omega)
                    · have t1 : (old == 0) = false := by simpa using h1
                      go_wp2_with fail
                      refine (impl_of xs.length hn4 (St xs m s i) HSM.out ⟨(q : Int), (r : Int)⟩ (.inr ⟨q, r, rfl, hql, hrl⟩) _ w.heap.size HS6.out).mono ?_
                      rintro e w7 ⟨rfl, hb7⟩
                      rw [HDI.out]
                      have hB7 := hB6.trans (hb7.mono hB6.size)
                      have HS7 := Lib.hid (HS6.out.same (hb7.block _ HS6.out.lt))
                      have KX7 := Lib.hid (KX6.out.same (hb7.block _ KX6.out.lt))
                      have HA7 : Hid (Arr w7 (NatR w7) (ctorsL xs (tyAt s)) (.slice (some ⟨b7, off7, none⟩) (ctorsL xs (tyAt s)).length cap3) F3 ∧ Under w7.heap.size F3) := ⟨ArrNat.below HA6.out.1 hb7 HA6.out.2, HA6.out.2.mono hb7.size⟩
                      clear hb7 y0 y1 hb5l hg5l
                      have y0 : w7.cell? ⟨bt, 0, none⟩ = some (.int .i64 (q : Int)) := (KX7.out.cell 0).trans (by simp)
                      have y1 : w7.cell? ⟨bt, 1, none⟩ = some (.int .i64 (r : Int)) := (KX7.out.cell 1).trans (by simp)
                      have hb5l := KX7.out.lt
                      have hg5l := HS7.out.lt
                      by_cases h2 : n < old
                      · have hb1 : better (St xs m s i) s n = true := by rw [hbet, decide_eq_true h0, decide_eq_true h2, Bool.or_true]; rfl
                        clear hbet h1
                        have hsp := HSM.out.pos s
                        have HMV := Lib.hid (movedB_put (St_le hsl) hsll hb1 hsp)
                        have z0 : w7.cell? ⟨w.heap.size, q * 4 + r, none⟩ = some (.int .i64 old) := by rw [HSE.out, ← HOLD.out]; exact HS7.out.cell hsll
                        have zf : w7.frozen? ⟨w.heap.size, q * 4 + r, none⟩ = false := Blk.frozen HS7.out _
                        have HS9 : Hid (Tab (w7.setCell ⟨w.heap.size, q * 4 + r, none⟩ (.int .i64 n)) w.heap.size (St xs m s (i + 1))) := by
                          rw [HSE.out]
                          have h := HS7.out.set hsll n
                          rw [← putIf_yes hb1, ← HST.out] at h
                          exact h
                        have KX9 : Hid (Blk (w7.setCell ⟨w.heap.size, q * 4 + r, none⟩ (.int .i64 n)) bt 32 #[.int .i64 (q : Int), .int .i64 (r : Int)]) := KX7.out.same (Below.heap_setCell _ _ _ _ (fun e => HNE.out e.symm))
                        have HA9 : Hid (Arr (w7.setCell ⟨w.heap.size, q * 4 + r, none⟩ (.int .i64 n)) (NatR (w7.setCell ⟨w.heap.size, q * 4 + r, none⟩ (.int .i64 n))) (ctorsL xs (tyAt s)) (.slice (some ⟨b7, off7, none⟩) (ctorsL xs (tyAt s)).length cap3) F3 ∧ Under (w7.setCell ⟨w.heap.size, q * 4 + r, none⟩ (.int .i64 n)).heap.size F3) := ⟨ArrNat.kept HA7.out.1 (Kept.set (Kept.refl _ _) HN3.out), HA7.out.2.mono (by simp [World.setCell])⟩
                        have hB9 : Below w.heap.size w (w7.setCell ⟨w.heap.size, q * 4 + r, none⟩ (.int .i64 n)) := hB7.setCell (Nat.le_refl _) _
                        have HC9 : Hid (movedB (sweeps xs m) (St xs m s (i + 1)) = true) := by rw [HST.out]; exact HMV.out
                        clear hb1 hsp
                        go_wp2
                        go_roundw
                        case rel => exact ⟨i + 1, true, by omega, by go_num, rfl, HC9, HS9, KX9, HA9, hB9⟩
                        case measure => (simp [intOf] <;> omega)
                      · have hb1 : better (St xs m s i) s n = false := by rw [hbet, decide_eq_false h1, decide_eq_false h2]; simp
                        clear hbet h1
                        have HS9 : Hid (Tab w7 w.heap.size (St xs m s (i + 1))) := by
                          have h := HS7.out
                          rw [← movedB_not hb1, ← HST.out] at h
                          exact h
                        have HC9 : Hid (movedB (sweeps xs m) (St xs m s (i + 1)) = c) := by
                          have h := HC.out
                          rw [← movedB_not hb1, ← HST.out] at h
                          exact h
                        clear hb1
                        go_wp2
                        go_roundw
                        case rel => exact ⟨i + 1, c, by omega, by go_num, rfl, HC9, HS9, KX7, HA7, hB7⟩
                        case measure => (simp [intOf] <;> omega)
                  · have t0 : decide (n > 0) = false := by simp; omega
                    have hb1 : better (St xs m s i) s n = false := by rw [hbet, decide_eq_false h0]; rfl
                    clear hbet
                    have HS9 : Hid (Tab w5 w.heap.size (St xs m s (i + 1))) := by
                      have h := HS5.out
                      rw [← movedB_not hb1, ← HST.out] at h
                      exact h
                    have HC9 : Hid (movedB (sweeps xs m) (St xs m s (i + 1)) = c) := by
                      have h := HC.out
                      rw [← movedB_not hb1, ← HST.out] at h
                      exact h
                    clear hb1
                    go_wp2
                    go_roundw
                    case rel => exact ⟨i + 1, c, by omega, by go_num, rfl, HC9, HS9, KX5, HA5, hB5⟩
                    case measure => (simp [intOf] <;> omega)
                · have HT2 : Hid (Tab wr w.heap.size (sweepTo xs (sweeps xs m) (q * 4 + (r + 1)))) := by
                    have h := HS.out
                    rw [St_all (by omega), ← HSE.out] at h
                    exact h
                  have HC2 : Hid (movedB (sweeps xs m) (sweepTo xs (sweeps xs m) (q * 4 + (r + 1))) = c) := by
                    have h := HC.out
                    rw [St_all (by omega), ← HSE.out] at h
                    exact h
                  go_wp2
                  go_roundw
                  case rel => exact ⟨r + 1, c, by omega, by go_num, rfl, HC2, HT2, hB⟩
                  case measure => (simp [intOf] <;> omega)
            · have t9 : decide ((r : Int) ≤ 3) = false := by simp; omega
              have HT2 : Hid (Tab wr w.heap.size (sweepTo xs (sweeps xs m) ((q + 1) * 4))) := by
                have h := HT.out
                rw [show q * 4 + r = (q + 1) * 4 by omega] at h
                exact h
              have HC2 : Hid (movedB (sweeps xs m) (sweepTo xs (sweeps xs m) ((q + 1) * 4)) = c) := by
                have h := HCV.out
                rw [show q * 4 + r = (q + 1) * 4 by omega] at h
                exact h
              go_wp2
              go_roundw
              case rel => exact ⟨q + 1, by omega, by go_num, (by rw [HC2.out]), HT2, hB⟩
              case measure => (simp [intOf] <;> omega)
        · have HT2 : Hid (Tab wr w.heap.size (sweeps xs (m + 1))) := by
            have h := HT.out
            rw [show q * 4 = xs.length * 4 by omega] at h
            exact h
          generalize hcv : movedB (sweeps xs m) (sweepTo xs (sweeps xs m) (q * 4)) = cb
          have hfix : cb = false → sweep xs (sweeps xs (m + 1)) = sweeps xs (m + 1) := fun h => by
            rw [h, movedB_iff, show q * 4 = xs.length * 4 by omega] at hcv
            have e : sweeps xs (m + 1) = sweeps xs m := hcv
            rw [e]; exact hcv
          have hmv : cb = true → m + 1 ≤ xs.length * 4 + 1 := fun h => by
            have := moved_le HW.out (m := m) (fun e => by
              have e2 : movedB (sweeps xs m) (sweepTo xs (sweeps xs m) (q * 4)) = false := movedB_iff.2 (by rw [show q * 4 = xs.length * 4 by omega]; exact e)
              rw [hcv, h] at e2
              cases e2)
            omega
          have HFIX := Lib.hid hfix
          have HMV := Lib.hid hmv
          clear hfix hmv hcv
          go_wp2
          go_roundg (gk - 1)
          case rel => exact ⟨m + 1, cb, by omega, rfl, HFIX, HMV.out, HT2, hB⟩
          case measure => omega
end Go.Proofs.Ytilndhmegaccmaa

namespace Go.Proofs.Ytilndhmegaccmaa
open Go.RowKit

theorem depthL_no {xs : List Dt} {t : Ty} (h : typeValidB xs t = false) : depthL xs t = 0 := if_neg (by simp [h])
theorem depthL_yes {xs : List Dt} {t : Ty} (h : typeValidB xs t = true) : depthL xs t = depthIn (tableL xs) t := if_pos h
def posB (n : Int) : Bool := decide (0 < n)
theorem tableL_small {xs : List Dt} (hw : WorldOK xs) : Small xs.length (tableL xs) := table_small hw (by have := hw.len; omega)
theorem ret_pair {k : IntKind} {a b : Int} {c d : Bool} (h : a = b) (h2 : c = d) : Ending.returned (.tuple #[.int k a, .bool c]) = .returned (.tuple #[.int k b, .bool d]) := by rw [h, h2]
set_option maxRecDepth 100000 in
set_option maxHeartbeats 1600000 in
theorem spec_LeastDepth (xs : List Dt) (t : Ty) (w : World) (v : Value) (F : List Nat) (hx : Arr w (DtR w) xs v F) (hf : Under w.heap.size F) :
    Calls Try.prog 82 #[v, .agg #[.int .i64 t.d, .int .i64 t.i]] w fun e w' => e = .returned (.tuple #[.int .i64 (depthL xs t), .bool (posB (depthL xs t))]) ∧ Below w.heap.size w w' := by
  obtain ⟨A, cap, rfl, hc1, hc2⟩ := hx.form
  have HX := Lib.hid hx
  have HF := Lib.hid hf
  clear hx hf
  go_enter Try.func82, Try.ntmps82
  go_wp2_with fail
  obtain ⟨W2, hW2⟩ : ∃ W2, W2 = w.alloc (.cells #[.int .i64 t.d, .int .i64 t.i] 32) := ⟨_, rfl⟩
  have hB2 : Below w.heap.size w W2 := by rw [hW2]; exact (Below.refl _ _).alloc (Nat.le_refl _) _
  have k1 : Blk W2 w.heap.size 32 #[.int .i64 t.d, .int .i64 t.i] := by rw [hW2]; exact Blk.new _ _ _
  rw [← hW2]
  clear hW2
  refine (spec_TypeValid xs t W2 _ F (ArrDt.below HX.out hB2 HF.out) (HF.out.mono hB2.size)).mono ?_
  rintro e w3 ⟨rfl, hb3⟩
  have hB3 := hB2.trans (hb3.mono hB2.size)
  have k2 := k1.same (hb3.block _ k1.lt)
  have x0 : w3.cell? ⟨w.heap.size, 0, none⟩ = some (.int .i64 t.d) := (k2.cell 0).trans (by simp)
  have x1 : w3.cell? ⟨w.heap.size, 1, none⟩ = some (.int .i64 t.i) := (k2.cell 1).trans (by simp)
  have hlt := k2.lt
  clear k1 k2 hb3
  cases h1 : typeValidB xs t with
  | false =>
    have hf := Lib.hid (depthL_no h1)
    clear h1
    go_wp2
    go_ret2
    exact ⟨ret_pair hf.out.symm (by rw [hf.out]; rfl), hB3⟩
  | true =>
    have hf := Lib.hid (depthL_yes h1)
    obtain ⟨hw, hto⟩ := typeValid_split h1
    have HW := Lib.hid hw
    have HT := Lib.hid (typeOkB_tyIn hto)
    clear h1 hw hto
    go_wp2_with fail
    have hkeep : ∀ U U' : World, (U.cell? ⟨w.heap.size, 0, none⟩ = some (.int .i64 t.d) ∧ U.cell? ⟨w.heap.size, 1, none⟩ = some (.int .i64 t.i)) → Below U.heap.size U U' → w3.heap.size ≤ U.heap.size → (U'.cell? ⟨w.heap.size, 0, none⟩ = some (.int .i64 t.d) ∧ U'.cell? ⟨w.heap.size, 1, none⟩ = some (.int .i64 t.i)) := fun U U' h hUU hU => ⟨(hUU.cell (Nat.lt_of_lt_of_le (hlt) hU)).trans h.1, (hUU.cell (Nat.lt_of_lt_of_le (hlt) hU)).trans h.2⟩
    have HKeep := Lib.hid hkeep
    clear hkeep
    go_region_held3 (fun w' => w'.cell? ⟨w.heap.size, 0, none⟩ = some (.int .i64 t.d) ∧ w'.cell? ⟨w.heap.size, 1, none⟩ = some (.int .i64 t.i)) (first | assumption | (exact ⟨x0, x1⟩) | (exact HKeep.out w3.drew w4 ⟨x0, x1⟩ hb4 (Nat.le_refl _)) | (exact HKeep.out w4 w5 (by assumption) hb5 hlew4)) (first | (go_at_call 84; ((with_reducible refine (spec_l1Table xs HW.out _ _ F (ArrDt.below HX.out hB3.drew HF.out) (HF.out.mono hB3.drew.size)).mono ?_); rintro e w4 ⟨v4, F4, rfl, hb4, ha4, -, hfs4⟩); have hlew4 : w3.heap.size ≤ w4.heap.size := hb4.size) | (go_at_call 125; ((with_reducible refine (spec_l1Depth xs.length HW.out.len (tableL xs) (tableL_small HW.out) t HT.out _ _ F4 ha4 hfs4.under).mono ?_); rintro e w5 ⟨rfl, hb5⟩)))
    have hB5 := (hB3.drew.trans (hb4.mono hB3.drew.size)).trans (hb5.mono (hB3.drew.trans (hb4.mono hB3.drew.size)).size)
    generalize hdd : depthIn (tableL xs) t = n at *
    have HDD := Lib.hid hdd
    clear hdd
    go_wp2
    go_ret2
    exact ⟨ret_pair hf.out.symm (by rw [hf.out]; rfl), hB5⟩


set_option maxRecDepth 100000 in
set_option maxHeartbeats 1600000 in
theorem impl_LeastDepth (xs : List Dt) (t : Ty) (w : World) (v : Value) (F : List Nat) (hx : Arr w (DtR w) xs v F) (hf : Under w.heap.size F) :
    Calls Try.prog 32 #[v, .agg #[.int .i64 t.d, .int .i64 t.i]] w fun e w' => e = .returned (.tuple #[.int .i64 (depthL xs t), .bool (posB (depthL xs t))]) ∧ Below w.heap.size w w' := by
  obtain ⟨A, cap, rfl, hc1, hc2⟩ := hx.form
  have HX := Lib.hid hx
  have HF := Lib.hid hf
  clear hx hf
  go_enter Try.func32, Try.ntmps32
  go_wp2_with fail
  obtain ⟨W2, hW2⟩ : ∃ W2, W2 = w.alloc (.cells #[.int .i64 t.d, .int .i64 t.i] 32) := ⟨_, rfl⟩
  have hB2 : Below w.heap.size w W2 := by rw [hW2]; exact (Below.refl _ _).alloc (Nat.le_refl _) _
  have k1 : Blk W2 w.heap.size 32 #[.int .i64 t.d, .int .i64 t.i] := by rw [hW2]; exact Blk.new _ _ _
  rw [← hW2]
  clear hW2
  refine (impl_TypeValid xs t W2 _ F (ArrDt.below HX.out hB2 HF.out) (HF.out.mono hB2.size)).mono ?_
  rintro e w3 ⟨rfl, hb3⟩
  have hB3 := hB2.trans (hb3.mono hB2.size)
  have k2 := k1.same (hb3.block _ k1.lt)
  have x0 : w3.cell? ⟨w.heap.size, 0, none⟩ = some (.int .i64 t.d) := (k2.cell 0).trans (by simp)
  have x1 : w3.cell? ⟨w.heap.size, 1, none⟩ = some (.int .i64 t.i) := (k2.cell 1).trans (by simp)
  have hlt := k2.lt
  clear k1 k2 hb3
  cases h1 : typeValidB xs t with
  | false =>
    have hf := Lib.hid (depthL_no h1)
    clear h1
    go_wp2
    go_ret2
    exact ⟨ret_pair hf.out.symm (by rw [hf.out]; rfl), hB3⟩
  | true =>
    have hf := Lib.hid (depthL_yes h1)
    obtain ⟨hw, hto⟩ := typeValid_split h1
    have HW := Lib.hid hw
    have HT := Lib.hid (typeOkB_tyIn hto)
    clear h1 hw hto
    go_wp2_with fail
    have hkeep : ∀ U U' : World, (U.cell? ⟨w.heap.size, 0, none⟩ = some (.int .i64 t.d) ∧ U.cell? ⟨w.heap.size, 1, none⟩ = some (.int .i64 t.i)) → Below U.heap.size U U' → w3.heap.size ≤ U.heap.size → (U'.cell? ⟨w.heap.size, 0, none⟩ = some (.int .i64 t.d) ∧ U'.cell? ⟨w.heap.size, 1, none⟩ = some (.int .i64 t.i)) := fun U U' h hUU hU => ⟨(hUU.cell (Nat.lt_of_lt_of_le (hlt) hU)).trans h.1, (hUU.cell (Nat.lt_of_lt_of_le (hlt) hU)).trans h.2⟩
    have HKeep := Lib.hid hkeep
    clear hkeep
    go_region_held3 (fun w' => w'.cell? ⟨w.heap.size, 0, none⟩ = some (.int .i64 t.d) ∧ w'.cell? ⟨w.heap.size, 1, none⟩ = some (.int .i64 t.i)) (first | assumption | (exact ⟨x0, x1⟩) | (exact HKeep.out w3.drew w4 ⟨x0, x1⟩ hb4 (Nat.le_refl _)) | (exact HKeep.out w4 w5 (by assumption) hb5 hlew4)) (first | (go_at_call 79; ((with_reducible refine (impl_depthsOf xs HW.out _ _ F (ArrDt.below HX.out hB3.drew HF.out) (HF.out.mono hB3.drew.size)).mono ?_); rintro e w4 ⟨g4, rfl, hge4, ha4, hb4⟩); have hlew4 : w3.heap.size ≤ w4.heap.size := hb4.size) | (go_at_call 80; ((with_reducible refine (impl_of xs.length HW.out.len (tableL xs) (tableL_small HW.out) t HT.out _ g4 ha4).mono ?_); rintro e w5 ⟨rfl, hb5⟩)))
    have hB5 := (hB3.drew.trans (hb4.mono hB3.drew.size)).trans (hb5.mono (hB3.drew.trans (hb4.mono hB3.drew.size)).size)
    generalize hdd : depthIn (tableL xs) t = n at *
    have HDD := Lib.hid hdd
    clear hdd
    go_wp2
    go_ret2
    exact ⟨ret_pair hf.out.symm (by rw [hf.out]; rfl), hB5⟩

end Go.Proofs.Ytilndhmegaccmaa
