/-
  Lemmas and contracts of functions: What ParseWorld of the reference gives, in plain Lean. Conditions: none. Worlds that a call has copied: every slice is the call's own. Conditions: none. One part of a copied world written anew: what the world then stands for. Conditions: none. The reader of drawn numbers. Conditions: it has given no more than a million. Numbers and texts out of lists by the reader. Conditions: the reader has given no more than a million numbers. ParseWorld of the reference. Conditions: the text is not longer than a million bytes. l1Texts, l1World of the reference: a drawn world. Conditions: the reader has given no more than 900000 numbers. l1Some of the reference: a drawn type. Conditions: the reader has given no more than 900000 numbers.
-/
import Derived.Test.YtbffkgfhcmigaaaKAO
import Derived.Test.YtbffkgfhcmigaaaChecked
import Derived.Test.YtbffkgfhcmigaaaKAC
import Derived.Test.YtbffkgfhcmigaaaKAB
import Derived.Laws.BitsAllLaws
import Derived.IntWalk
import Derived.Deep.RegionWith
import Derived.Deep.QuietTactic
import Derived.BigQuiet
import Derived.Test.YtbffkgfhcmigaaaKAA

set_option linter.unusedVariables false
set_option linter.unusedSimpArgs false

namespace Go.Proofs.Ytbffkgfhcmigaaa
open Go.RowKit

def splitS : List ByteArray → Option (List (ByteArray × ByteArray))
  | [] => some []
  | l :: ls => match cutS 61 l with
    | [a, b] => match splitS ls with
      | some r => some ((a, b) :: r)
      | none => none
    | _ => none
def pdt (names : List ByteArray) (p : ByteArray × ByteArray) : Dt := ⟨p.1, ((cutS 124 p.2).take 5).map (pkt names)⟩
def buildS (r : List (ByteArray × ByteArray)) : List Dt := r.map (pdt (r.map Prod.fst))
def linesT (text : ByteArray) : List ByteArray := if text.size = 0 then [] else (cutS 59 text).take 5
def parseS (text : ByteArray) : Option (List Dt) := match splitS (linesT text) with
  | some r => some (buildS r)
  | none => none
theorem splitGo_eq : ∀ (l : List (List UInt8)), splitGo l = match splitS (l.map bs) with | some r => some (r.map fun p => (tl p.1, tl p.2)) | none => none
  | [] => rfl
  | x :: l => by
    have ih := splitGo_eq l
    have e : cutS 61 (bs x) = (cutL 61 x).map bs := rfl
    rw [List.map_cons, splitS, splitGo, e, ih]
    match h : cutL 61 x with
    | [] => rfl
    | [_] => rfl
    | [a, b] =>
      simp only [List.map_cons, List.map_nil]
      cases splitS (l.map bs) <;> rfl
    | _ :: _ :: _ :: _ => rfl
theorem parseS_eq (text : ByteArray) : parseGo (tl text) = parseS text := by
  unfold parseGo parseS linesT
  by_cases h0 : text.size = 0
  · have ht : tl text = [] := List.eq_nil_of_length_eq_zero (by rw [tl_len]; exact h0)
    rw [if_pos ht, if_pos h0]; rfl
  · have ht : ¬ tl text = [] := fun e => h0 (by rw [← tl_len, e]; rfl)
    rw [if_neg ht, if_neg h0, splitGo_eq]
    have e : ((cutL 59 (tl text)).take 5).map bs = (cutS 59 text).take 5 := by unfold cutS; rw [List.map_take]
    rw [e]
    cases splitS ((cutS 59 text).take 5) with
    | none => rfl
    | some r =>
      show some _ = some _
      congr 1
      unfold buildS
      rw [List.map_map, List.map_map]
      refine List.map_congr_left fun p _ => ?_
      show parseDt (List.map (Prod.fst ∘ fun p => (tl p.1, tl p.2)) r) (tl p.1) (tl p.2) = pdt (r.map Prod.fst) p
      unfold parseDt pdt
      rw [bs_tl]
      congr 1
      unfold cutS
      rw [← List.map_take, List.map_map]
      refine List.map_congr_left fun x _ => ?_
      show parseKt _ x = parseKt _ (tl (bs x))
      rw [tl_bs, List.map_map]
      rfl
/-- the first lines are split into ps, the others are left -/
def splitAfter (ps : List (ByteArray × ByteArray)) (ls : List ByteArray) : Option (List (ByteArray × ByteArray)) := match splitS ls with
  | some r => some (ps ++ r)
  | none => none
theorem splitAfter_nil (ls : List ByteArray) : splitAfter [] ls = splitS ls := by unfold splitAfter; cases splitS ls <;> rfl
theorem splitAfter_bad {ps : List (ByteArray × ByteArray)} {ls : List ByteArray} {i : Nat} (hi : i < ls.length) (h : (cutS 61 ls[i]).length ≠ 2) : splitAfter ps (ls.drop i) = none := by
  unfold splitAfter
  rw [List.drop_eq_getElem_cons hi, splitS]
  match h' : cutS 61 ls[i], h with
  | [], _ => rfl
  | [_], _ => rfl
  | [_, _], h => simp at h
  | _ :: _ :: _ :: _, _ => rfl
theorem splitAfter_good {ps : List (ByteArray × ByteArray)} {ls : List ByteArray} {i : Nat} (hi : i < ls.length) {a b : ByteArray} (h : cutS 61 ls[i] = [a, b]) : splitAfter ps (ls.drop i) = splitAfter (ps ++ [(a, b)]) (ls.drop (i + 1)) := by
  unfold splitAfter
  rw [List.drop_eq_getElem_cons hi, splitS, h]
  cases splitS (ls.drop (i + 1)) with
  | none => rfl
  | some r => show some (ps ++ ((a, b) :: r)) = some ((ps ++ [(a, b)]) ++ r); rw [List.append_assoc]; rfl
theorem splitAfter_end {ps : List (ByteArray × ByteArray)} {ls : List ByteArray} {i : Nat} (h : ls.length ≤ i) : splitAfter ps (ls.drop i) = some ps := by
  unfold splitAfter
  rw [List.drop_of_length_le h]
  show some (ps ++ []) = _
  rw [List.append_nil]
theorem linesT_len (text : ByteArray) : (linesT text).length ≤ 5 := by
  unfold linesT
  split
  · simp
  · rw [List.length_take]; omega
theorem two_of {l : List ByteArray} (h : l.length = 2) : ∃ a b, l = [a, b] := by
  match l, h with
  | [a, b], _ => exact ⟨a, b, rfl⟩
def namesOf (ps : List (ByteArray × ByteArray)) : List ByteArray := ps.map Prod.fst
theorem namesOf_len (ps : List (ByteArray × ByteArray)) : (namesOf ps).length = ps.length := List.length_map _
theorem namesOf_snoc (ps : List (ByteArray × ByteArray)) (p : ByteArray × ByteArray) : namesOf (ps ++ [p]) = namesOf ps ++ [p.1] := by unfold namesOf; rw [List.map_append]; rfl
theorem namesOf_get (ps : List (ByteArray × ByteArray)) (i : Nat) (h : i < ps.length) : (namesOf ps)[i]'(by rw [namesOf_len]; exact h) = ps[i].1 := by unfold namesOf; rw [List.getElem_map]
def dtsTo (ps : List (ByteArray × ByteArray)) (i : Nat) : List Dt := (ps.take i).map (pdt (namesOf ps))
theorem dtsTo_len (ps : List (ByteArray × ByteArray)) (i : Nat) : (dtsTo ps i).length ≤ i := by unfold dtsTo; rw [List.length_map, List.length_take]; omega
theorem dtsTo_succ (ps : List (ByteArray × ByteArray)) (i : Nat) (h : i < ps.length) : dtsTo ps (i + 1) = dtsTo ps i ++ [pdt (namesOf ps) ps[i]] := map_take_snoc _ _ _ h
theorem dtsTo_all (ps : List (ByteArray × ByteArray)) {i : Nat} (h : ps.length ≤ i) : dtsTo ps i = buildS ps := by unfold dtsTo buildS; rw [List.take_of_length_le h]; rfl
def ktsTo (names ls : List ByteArray) (k : Nat) : List Kt := (ls.take k).map (pkt names)
theorem ktsTo_len (names ls : List ByteArray) (k : Nat) : (ktsTo names ls k).length ≤ k := by unfold ktsTo; rw [List.length_map, List.length_take]; omega
theorem ktsTo_succ (names ls : List ByteArray) (k : Nat) (h : k < ls.length) : ktsTo names ls (k + 1) = ktsTo names ls k ++ [pkt names ls[k]] := map_take_snoc _ _ _ h
theorem ktsTo_all (names ls : List ByteArray) {k : Nat} (hk : k ≤ 5) (h : ls.length ≤ k ∨ k = 5) : ktsTo names ls k = (ls.take 5).map (pkt names) := by
  unfold ktsTo
  rcases h with h | h
  · congr 1
    rw [List.take_of_length_le h]
    rcases Nat.lt_or_ge 5 ls.length with h5 | h5
    · omega
    · rw [List.take_of_length_le h5]
  · rw [h]
theorem Free.append {w : World} {F G : List Nat} (hF : Free w F) (hG : Free w G) (hd : ∀ b ∈ F, b ∉ G) : Free w (F ++ G) :=
  ⟨List.nodup_append.2 ⟨hF.1, hG.1, fun a ha b hb e => hd a ha (by rw [e]; exact hb)⟩, fun b hb i => by
    rcases List.mem_append.1 hb with h | h
    · exact hF.2 b h i
    · exact hG.2 b h i⟩
theorem Chg.trans_new {F : List Nat} {a b c : World} {D : Nat} (h : Chg F a b) (k : Chg [D] b c) (hD : a.heap.size ≤ D) : Chg F a c :=
  ⟨k.os.trans h.os, k.tape.trans h.tape, k.output.trans h.output, Nat.le_trans h.size k.size, fun x hx hn => (k.block x (Nat.lt_of_lt_of_le hx h.size) (by simp; omega)).trans (h.block x hx hn)⟩
/-! ### One round: a call, an element that is appended, the slice that is stored into the block D -/
section
variable {α : Type} {R : World → α → List Value → List Nat → Prop} {k D H : Nat} {E T : TypeId} {xs ys : List α} {w w9 wr wA w7 : World} {o : Obj} {nm v v' : Value} {F G : List Nat}
theorem grow_old (HO : Own wr (D + 1) E k R xs v F) (hBu : Below wr.heap.size wr wA) (hgr : (wA.alloc o).grownBy w7 v.ownBlock) {b : Nat} (hb : b < D + 1) (hbr : b < wr.heap.size) : w7.heap[b]? = wr.heap[b]? := by
  have hl : b < wA.heap.size := Nat.lt_of_lt_of_le hbr hBu.size
  refine ((hgr.block b (by rw [World.size_alloc]; omega) (fun e => ?_)).trans (Below.heap_alloc _ _ _ hl)).trans (hBu.block b hbr)
  have := (HO.row b (mem_rowOf.2 e.symm)).1
  omega
theorem grow_round (hRm : ∀ w w' x cs G, Kept G w w' → R w x cs G → R w' x cs G) (hw9 : w9.heap.size = D + 1) (KD : Blk wr D T #[nm, v]) (HO : Own wr (D + 1) E k R xs v F) (HF : Free wr F) (HFh : ∀ b ∈ F, D + 1 ≤ b) (HC : Chg [D] w9 wr) (hB : Below H w wr) (hHD : H ≤ D) (hw : H ≤ w.heap.size)
    (hBu : Below wr.heap.size wr wA) (hfrA : Free wA G) (hfsA : ∀ b ∈ G, wr.heap.size ≤ b ∧ b < wA.heap.size) (hown : Own w7 (D + 1) E k R ys v' (F ++ G)) (hgr : (wA.alloc o).grownBy w7 v.ownBlock) :
    Blk (w7.setCell ⟨D, 1, none⟩ v') D T #[nm, v'] ∧ Own (w7.setCell ⟨D, 1, none⟩ v') (D + 1) E k R ys v' (F ++ G) ∧ Free (w7.setCell ⟨D, 1, none⟩ v') (F ++ G) ∧ (∀ b ∈ F ++ G, D + 1 ≤ b) ∧ Chg [D] w9 (w7.setCell ⟨D, 1, none⟩ v') ∧ Below H w (w7.setCell ⟨D, 1, none⟩ v') ∧ w9.heap.size ≤ (w7.setCell ⟨D, 1, none⟩ v').heap.size := by
  have hlt := KD.lt
  have hA := hBu.size
  have hFG : ∀ b ∈ F ++ G, D + 1 ≤ b := fun b hb => by
    rcases List.mem_append.1 hb with h | h
    · exact HFh b h
    · have := (hfsA b h).1; omega
  have hBA7 : Below (D + 1) wA w7 := ((Below.refl (D + 1) wA).alloc (by omega) o).grown hgr (by rw [World.size_alloc]; omega) (fun g hg => (HO.row g (mem_rowOf.2 hg)).1)
  have hC7 : Chg [D] w9 w7 := (HC.step hBu).under (by rw [hw9]; exact hBA7)
  have hC8 : Chg [D] w9 (w7.setCell ⟨D, 1, none⟩ v') := hC7.set (by simp)
  have hne : ∀ b ∈ F ++ G, b ≠ D := fun b hb e => by have := hFG b hb; omega
  refine ⟨?_, Own.set (j := 1) hRm hown v' (fun h => by have := (hown.row _ h).1; omega) (fun h => hne _ h rfl), ?_, hFG, hC8, ?_, hC8.size⟩
  · exact (KD.same (grow_old HO hBu hgr (Nat.lt_succ_self D) hlt)).set_ 1 v'
  · have hfr : Free wA (F ++ G) := Free.append (HF.kept (.of_below hBu HO.under)) hfrA (fun b hb hG => by have h1 := HO.under b hb; have h2 := (hfsA b hG).1; omega)
    have hfr7 : Free w7 (F ++ G) := hfr.kept fun b hb => by
      have hbA : b < wA.heap.size := by
        rcases List.mem_append.1 hb with h | h
        · exact Nat.lt_of_lt_of_le (HO.under b h) hA
        · exact (hfsA b h).2
      refine (hgr.block b (by rw [World.size_alloc]; omega) (fun e => ?_)).trans (Below.heap_alloc _ _ _ hbA)
      have hrw := mem_rowOf.2 e.symm
      rcases List.mem_append.1 hb with h | h
      · exact HO.apart b hrw h
      · have h1 := (HO.row b hrw).2
        have h2 := (hfsA b h).1
        omega
    exact hfr7.kept fun b hb => Below.heap_setCell w7 ⟨D, 1, none⟩ v' b (hne b hb)
  · have h8 : Below H w w7 := (hB.trans (hBu.mono (Nat.le_trans hw hB.size))).trans (hBA7.mono (by omega))
    exact h8.setCell hHD _
/-- an element that lies there already is appended to a slice of the call's own, whose blocks are H or new -/
theorem push_round (HO : Own wr H E k R xs v F) (hFr : Free wr F) (HFr : Free wr G) (hd : ∀ b ∈ rowOf v ++ F, b < D) (hG : ∀ b ∈ G, D + 1 ≤ b ∧ b < wr.heap.size) {w6 : World} (HR : ∀ g ∈ rowOf v, g = H ∨ w6.heap.size ≤ g) (HC : Chg [H] w6 wr) (hB : Below H w wr) (hw : H ≤ w.heap.size) (HFh : ∀ b ∈ F, w6.heap.size ≤ b) (hD : w6.heap.size ≤ D)
    (hgr : (wr.alloc o).grownBy w7 v.ownBlock) {g n cp : Nat} (hat : v.ownBlock = some g ∨ g = wr.heap.size + 1) :
    Free w7 (F ++ G) ∧ (∀ b ∈ F ++ G, w6.heap.size ≤ b) ∧ (∀ g' ∈ rowOf (.slice (some ⟨g, 0, none⟩) n cp), g' = H ∨ w6.heap.size ≤ g') ∧ Chg [H] w6 w7 ∧ Below H w w7 ∧ w6.heap.size ≤ w7.heap.size := by
  have hb77 : Below wr.heap.size wr (wr.alloc o) := (Below.refl _ _).alloc (Nat.le_refl _) _
  have h6 := HC.size
  have h1 := HC.step hb77
  have hC7 : Chg [H] w6 w7 := by
    refine ⟨hgr.os.trans h1.os, hgr.tape.trans h1.tape, hgr.output.trans h1.output, Nat.le_trans h1.size hgr.size, fun x hx hn => (hgr.block x (Nat.lt_of_lt_of_le hx h1.size) (fun e => ?_)).trans (h1.block x hx hn)⟩
    rcases HR x (mem_rowOf.2 e.symm) with h | h
    · exact hn (by simp [h])
    · omega
  refine ⟨?_, fun b hb => ?_, fun g' hg' => ?_, hC7, ?_, hC7.size⟩
  · refine (Free.append hFr HFr (fun b hb hg => by have h1 := hd b (List.mem_append.2 (.inr hb)); have h2 := (hG b hg).1; omega)).kept (fun b hb => ?_)
    have hbl : b < wr.heap.size := by
      rcases List.mem_append.1 hb with h | h
      · exact HO.under b h
      · exact (hG b h).2
    refine (hgr.block b (Nat.lt_of_lt_of_le hbl hb77.size) (fun e => ?_)).trans (Below.heap_alloc _ _ _ hbl)
    have hrw := mem_rowOf.2 e.symm
    rcases List.mem_append.1 hb with h | h
    · exact HO.apart b hrw h
    · have h1 := hd b (List.mem_append.2 (.inl hrw))
      have h2 := (hG b h).1
      omega
  · rcases List.mem_append.1 hb with h | h
    · exact HFh b h
    · have := (hG b h).1; omega
  · rw [rowOf_some, List.mem_singleton] at hg'
    subst hg'
    rcases hat with h | h
    · exact HR _ (mem_rowOf.2 h)
    · right; omega
  · have hs := hB.size
    exact (hB.alloc (Nat.le_trans hw hs) _).grown hgr (by rw [World.size_alloc]; omega) (fun g hg => (HO.row g (mem_rowOf.2 hg)).1)
end
theorem KtR_len' (w : World) (x : Kt) (cs : List Value) (F : List Nat) (h : KtR w x cs F) : cs.length = 3 := KtR_len x cs F h
theorem KtR_mono' (w w' : World) (x : Kt) (cs : List Value) (F : List Nat) (hk : Kept F w w') (h : KtR w x cs F) : KtR w' x cs F := KtR.mono x cs F hk h
theorem DtR_len' (w : World) (x : Dt) (cs : List Value) (F : List Nat) (h : DtR w x cs F) : cs.length = 2 := DtR_len x cs F h
theorem DtR_mono' (w w' : World) (x : Dt) (cs : List Value) (F : List Nat) (hk : Kept F w w') (h : DtR w x cs F) : DtR w' x cs F := DtR.mono x cs F hk h
theorem info_KtE : (Try.prog.info? 164).map (fun i => (i.zero, i.size, i.bytes)) = some (some (.agg #[.string ⟨#[]⟩, .slice none 0 0, .int .i64 0]), 3, 48) := by kernel_rfl
theorem info_DtE : (Try.prog.info? 112).map (fun i => (i.zero, i.size, i.bytes)) = some (some (.agg #[.string ⟨#[]⟩, .slice none 0 0]), 2, 40) := by kernel_rfl
/-- what ParseWorld of the reference gives -/
def GivesWorld (w : World) (r : Option (List Dt)) (e : Ending) (w' : World) : Prop :=
  ∃ v F, e = .returned (.tuple #[v, .bool r.isSome]) ∧ Below w.heap.size w w' ∧ Arr w' (DtR w') (r.getD []) v F ∧ Free w' F ∧ Fresh w w' F
def parseB (text : ByteArray) : Option (List Dt) := parseW (tl text)
theorem parseB_bad {text : ByteArray} (h : parseS text = none) : parseB text = none := by unfold parseB parseW; rw [parseS_eq, h]
theorem parseB_no {text : ByteArray} {xs : List Dt} (h : parseS text = some xs) (h2 : worldOk xs = false) : parseB text = none := by unfold parseB parseW; rw [parseS_eq, h]; simp only; rw [if_neg (by simp [h2])]
theorem parseB_text {text : ByteArray} {xs : List Dt} (h : parseS text = some xs) (h3 : ¬ textT xs = tl text) : parseB text = none := by
  unfold parseB parseW; rw [parseS_eq, h]; simp only; rw [if_neg h3]; split <;> rfl
theorem parseB_yes {text : ByteArray} {xs : List Dt} (h : parseS text = some xs) (h2 : worldOk xs = true) (h3 : textT xs = tl text) : parseB text = some xs := by unfold parseB parseW; rw [parseS_eq, h]; simp only; rw [if_pos h2, if_pos h3]
end Go.Proofs.Ytbffkgfhcmigaaa

namespace Go.Proofs.Ytbffkgfhcmigaaa
open Go.RowKit

theorem Own.mono0 {α : Type} {w w' : World} {B k : Nat} {E : TypeId} {R : World → α → List Value → List Nat → Prop} {xs : List α} {v : Value} (hR : ∀ x cs G, R w x cs G → R w' x cs G) (h : Own w B E k R xs v []) (hk : Kept (rowOf v) w w') : Own w' B E k R xs v [] := by
  obtain ⟨cs, h1, h2, h3, h4⟩ := h
  refine ⟨cs, ⟨h1.1, ?_⟩, h2.mono fun x _ cs G _ hr => hR x cs G hr, Under.nil _, h4⟩
  rcases h1.2 with hn | ⟨g, cap, cur, rfl, hb, hg, rest⟩
  · exact .inl hn
  · exact .inr ⟨g, cap, cur, rfl, hb, (hk g (by simp [rowOf_some])).trans hg, rest⟩
def KtO (w : World) (c : Kt) (cs : List Value) (F : List Nat) : Prop := ∃ kv, cs = [.string c.name, kv, .int .i64 c.idx] ∧ Own w 0 37 2 TyR c.args kv [] ∧ F = rowOf kv ∧ c.name.size ≤ 9223372036854775807
theorem KtO_len (w : World) (c : Kt) (cs : List Value) (F : List Nat) (h : KtO w c cs F) : cs.length = 3 := by obtain ⟨kv, rfl, -⟩ := h; rfl
theorem KtO_mono (w w' : World) (c : Kt) (cs : List Value) (F : List Nat) (hk : Kept F w w') (h : KtO w c cs F) : KtO w' c cs F := by
  obtain ⟨kv, e, ho, rfl, hs⟩ := h
  exact ⟨kv, e, Own.mono0 (w := w) (w' := w') (fun x cs G (h : TyR w x cs G) => (h : TyR w' x cs G)) ho hk, rfl, hs⟩
theorem KtO.toR {w : World} {c : Kt} {cs : List Value} {F : List Nat} (h : KtO w c cs F) : ∃ G, (∀ b ∈ G, b ∈ F) ∧ KtR w c cs G := by
  obtain ⟨kv, rfl, ho, rfl, hs⟩ := h
  refine ⟨_, fun b hb => ?_, kv, rfl, ho.arr, hs⟩
  split at hb
  · cases hb
  · rwa [List.append_nil] at hb
def DtO (w : World) (x : Dt) (cs : List Value) (F : List Nat) : Prop := ∃ kv, cs = [.string x.name, kv] ∧ Arr w (KtO w) x.ctors kv F ∧ x.name.size ≤ 9223372036854775807
theorem DtO_len (w : World) (x : Dt) (cs : List Value) (F : List Nat) (h : DtO w x cs F) : cs.length = 2 := by obtain ⟨kv, rfl, -⟩ := h; rfl
theorem DtO_mono (w w' : World) (x : Dt) (cs : List Value) (F : List Nat) (hk : Kept F w w') (h : DtO w x cs F) : DtO w' x cs F := by
  obtain ⟨kv, e, ha, hs⟩ := h
  exact ⟨kv, e, ha.mono hk fun y _ cs G hk h => KtO_mono _ _ y cs G hk h, hs⟩
theorem Flat.weaken {α : Type} {R R' : α → List Value → List Nat → Prop} (hR : ∀ x cs G, R x cs G → ∃ G', (∀ b ∈ G', b ∈ G) ∧ R' x cs G') : ∀ {xs : List α} {cs : List Value} {F : List Nat}, Flat R xs cs F → ∃ F', (∀ b ∈ F', b ∈ F) ∧ Flat R' xs cs F'
  | [], cs, F, h => ⟨[], (fun b hb => by cases hb), h.1, rfl⟩
  | x :: xs, cs, F, h => by
    obtain ⟨c1, c2, F1, F2, rfl, rfl, h1, h2⟩ := h
    obtain ⟨G1, g1, r1⟩ := hR _ _ _ h1
    obtain ⟨G2, g2, r2⟩ := Flat.weaken hR h2
    exact ⟨G1 ++ G2, fun b hb => by
      rcases List.mem_append.1 hb with h | h
      · exact List.mem_append.2 (.inl (g1 b h))
      · exact List.mem_append.2 (.inr (g2 b h)), c1, c2, G1, G2, rfl, rfl, r1, r2⟩
theorem Arr.weaken {α : Type} {w : World} {R R' : α → List Value → List Nat → Prop} (hR : ∀ x cs G, R x cs G → ∃ G', (∀ b ∈ G', b ∈ G) ∧ R' x cs G') {xs : List α} {v : Value} {F : List Nat} (h : Arr w R xs v F) : ∃ F', (∀ b ∈ F', b ∈ F) ∧ Arr w R' xs v F' := by
  obtain ⟨A, cap, rfl, h1, h2, h3⟩ := h
  rcases h3 with ⟨h3, -⟩ | ⟨b, off, cs, G, rfl, hc, hf, rfl⟩
  · exact ⟨[], fun b hb => (by cases hb), A, cap, rfl, h1, h2, .inl ⟨h3, rfl⟩⟩
  · obtain ⟨G', hg, hf'⟩ := Flat.weaken hR hf
    exact ⟨b :: G', fun x hx => by
      rcases List.mem_cons.1 hx with rfl | h
      · simp
      · simp [hg x h], _, cap, rfl, h1, h2, .inr ⟨b, off, cs, G', rfl, hc, hf', rfl⟩⟩
theorem DtO.toR {w : World} {x : Dt} {cs : List Value} {F : List Nat} (h : DtO w x cs F) : ∃ G, (∀ b ∈ G, b ∈ F) ∧ DtR w x cs G := by
  obtain ⟨kv, rfl, ha, hs⟩ := h
  obtain ⟨G, hg, ha'⟩ := ha.weaken fun _ _ _ h => KtO.toR h
  exact ⟨G, hg, kv, rfl, ha', hs⟩
theorem ArrDtO.toR {w : World} {xs : List Dt} {v : Value} {F : List Nat} (h : Arr w (DtO w) xs v F) : ∃ G, (∀ b ∈ G, b ∈ F) ∧ Arr w (DtR w) xs v G := h.weaken fun _ _ _ h => DtO.toR h
/-- the lists of a world are short -/
def SmallW (n : Nat) (xs : List Dt) : Prop := ∀ x ∈ xs, x.ctors.length ≤ n ∧ ∀ c ∈ x.ctors, c.args.length ≤ n
theorem SmallW.of {xs : List Dt} (h : WorldOK xs) : SmallW 4 xs := fun x hx => ⟨(h.all x hx).hi, fun c hc => by have := ((h.all x hx).all c hc).args; omega⟩

theorem Flat.ones {α : Type} {R : α → List Value → List Nat → Prop} (hR : ∀ x cs G, R x cs G → ∀ u ∈ cs, u.oneCell' = true) : ∀ {xs : List α} {cs : List Value} {F : List Nat}, Flat R xs cs F → ∀ u ∈ cs, u.oneCell' = true
  | [], cs, F, h, u, hu => by obtain ⟨rfl, -⟩ := h; cases hu
  | x :: xs, cs, F, h, u, hu => by
    obtain ⟨c1, c2, F1, F2, rfl, rfl, h1, h2⟩ := h
    rcases List.mem_append.1 hu with h | h
    · exact hR _ _ _ h1 u h
    · exact Flat.ones hR h2 u h
theorem Flat.bare {α : Type} {R R' : α → List Value → List Nat → Prop} (hR : ∀ x cs G, R x cs G → R' x cs []) : ∀ {xs : List α} {cs : List Value} {F : List Nat}, Flat R xs cs F → Flat R' xs cs []
  | [], cs, F, h => ⟨h.1, rfl⟩
  | x :: xs, cs, F, h => by
    obtain ⟨c1, c2, F1, F2, rfl, rfl, h1, h2⟩ := h
    exact ⟨c1, c2, [], [], rfl, rfl, hR _ _ _ h1, Flat.bare hR h2⟩

/-! ### append of a whole slice that came in -/
section
variable {P : Program} {w : World}
theorem run_append_void (t ty e : TypeId) (i : TypeInfo) (ht : P.underlying t = some (.slice e)) (hi : P.info? e = some i) (g cap c : Nat) (A : Option Addr) (hA : A = none) :
    (Builtin.append_ #[t, t] ty #[.slice (some ⟨g, 0, none⟩) 0 cap, .slice A 0 c]).run P w = .ok (.slice (some ⟨g, 0, none⟩) 0 cap) w := by
  subst hA
  simp [Builtin.append_, run_underlying ht, sizeOf, typeInfo, hi, Builtin.lenOf, Builtin.firstCells, storeCells]
/-- onto an empty slice of the call's own (block g, no room): whatever comes in -/
theorem run_append_whole {α : Type} {R : α → List Value → List Nat → Prop} {RR : World → α → List Value → List Nat → Prop} {B k : Nat} {E : TypeId} (t ty : TypeId) (i : TypeInfo) (z : Value) (bytes : Nat) (ht : P.underlying t = some (.slice E)) (hi : P.info? E = some i) (hz : i.zero = some z)
    (hsize : i.size = k) (hby : i.bytes = bytes) (hzs : z.cells.size = k) (hk : 0 < k) (hRl : ∀ x cs G, R x cs G → cs.length = k) (hR1 : ∀ x cs G, R x cs G → ∀ u ∈ cs, u.oneCell' = true) (hRR : ∀ w' x cs G, R x cs G → RR w' x cs [])
    {g : Nat} (hown : Own w B E k RR ([] : List α) (.slice (some ⟨g, 0, none⟩) 0 0) []) {ys : List α} {A : Option Addr} {n c : Nat} {F : List Nat} (hy : Arr w R ys (.slice A n c) F)
    (h63 : ys.length ≤ 1000000) (hbytes : ys.length * bytes ≤ 140737488355328) (hbase : B ≤ w.heap.size) :
    ∃ v' w', (Builtin.append_ #[t, t] ty #[.slice (some ⟨g, 0, none⟩) 0 0, .slice A n c]).run P w = .ok v' w' ∧ Own w' B E k RR ys v' [] ∧ w.grownBy w' (some g) ∧ ∀ b ∈ rowOf v', b = g ∨ b = w.heap.size := by
  obtain ⟨A', c', hv, h1, h2, h3⟩ := hy
  cases hv
  rcases h3 with ⟨rfl, -⟩ | ⟨b, off, cs, G, rfl, hc, hf, -⟩
  · cases A with
    | none => exact ⟨_, w, run_append_void t ty E i ht hi g 0 c none rfl, hown, ⟨rfl, rfl, rfl, Nat.le_refl _, fun _ _ _ => rfl⟩, fun b hb => by rw [rowOf_some, List.mem_singleton] at hb; exact .inl hb⟩
    | some a =>
      obtain ⟨cs, o1, o2, o3, o4⟩ := hown
      obtain ⟨v', w', hr, q1, q2, q3, q4⟩ := run_append_own_at (P := P) w B t ty E i z k bytes ht hi hz hsize hby hzs hk _ 0 cs o1 a 0 c [] (by simp) (fun j u h => by simp at h) (fun u h => by cases h) (by simp [maxLen]) (by simp) hbase
      obtain ⟨rfl, -⟩ := o2
      refine ⟨v', w', hr, ⟨[], q1, ⟨rfl, rfl⟩, Under.nil _, fun g _ h => by cases h⟩, q2, fun b hb => ?_⟩
      have hb := mem_rowOf.1 hb
      rcases q4 with q4 | q4
      · left; rw [q4] at hb; exact (Option.some.inj hb).symm
      · right; rw [q4] at hb; exact (Option.some.inj hb).symm
  · obtain ⟨cs0, o1, o2, o3, o4⟩ := hown
    obtain ⟨rfl, -⟩ := o2
    have hl : cs.length = ys.length * k := hf.length hRl
    have hone := hf.ones hR1
    obtain ⟨v', w', hr, q1, q2, q3, q4⟩ := run_append_own_at (P := P) w B t ty E i z k bytes ht hi hz hsize hby hzs hk _ 0 [] o1 ⟨b, off, none⟩ ys.length c cs hl (fun j u hj => by rw [Addr.add_lit]; exact hc j u hj) hone (by unfold maxLen; omega) (by simpa using hbytes) hbase
    refine ⟨v', w', hr, ⟨cs, by simpa using q1, ?_, Under.nil _, fun g _ h => by cases h⟩, q2, fun x hx => ?_⟩
    · exact hf.bare (hRR w')
    · have hb := mem_rowOf.1 hx
      rcases q4 with q4 | q4
      · left; rw [q4] at hb; exact (Option.some.inj hb).symm
      · right; rw [q4] at hb; exact (Option.some.inj hb).symm
end
end Go.Proofs.Ytbffkgfhcmigaaa

namespace Go.Proofs.Ytbffkgfhcmigaaa
open Go.RowKit

theorem Arr.put {α : Type} {R R' : World → α → List Value → List Nat → Prop} {k : Nat} (hRl : ∀ w x cs G, R w x cs G → cs.length = k) (hRl' : ∀ w x cs G, R' w x cs G → cs.length = k)
    (hconv : ∀ w w' x cs G, Kept G w w' → R w x cs G → ∃ G', (∀ b ∈ G', b ∈ G) ∧ R' w' x cs G') {w : World} {xs : List α} {v : Value} {F : List Nat}
    (h : Arr w (R w) xs v F) (hfr : Free w F) {i : Nat} (hi : i < xs.length) :
    ∃ b off c F2 cap, v = .slice (some ⟨b, off, none⟩) xs.length cap ∧ CellsAt w b (off + i * k) c ∧ R w xs[i] c F2 ∧ Free w F2 ∧ b ∉ F2 ∧ b ∈ F ∧ (∀ x ∈ F2, x ∈ F) ∧ (∀ j, w.frozen? ⟨b, j, none⟩ = false) ∧
      ∀ w' y c' G2, (∀ j, j < off + i * k ∨ off + i * k + k ≤ j → w'.cell? ⟨b, j, none⟩ = w.cell? ⟨b, j, none⟩) → (∀ x ∈ F, x ≠ b → x ∉ F2 → w'.heap[x]? = w.heap[x]?) → CellsAt w' b (off + i * k) c' → R' w' y c' G2 →
        ∃ F', (∀ x ∈ F', x ∈ F ∨ x ∈ G2) ∧ Arr w' (R' w') (xs.set i y) v F' := by
  obtain ⟨A, cap, rfl, h1, h2, h3⟩ := h
  rcases h3 with ⟨rfl, -⟩ | ⟨b, off, cs, G, rfl, hc, hf, rfl⟩
  · simp at hi
  have hxs : xs = xs.take i ++ (xs[i] :: xs.drop (i + 1)) := by rw [← List.drop_eq_getElem_cons hi, List.take_append_drop]
  have hf' := hf
  rw [hxs] at hf'
  obtain ⟨c1, c23, F1, F23, rfl, rfl, g1, g23⟩ := Flat.split (xs.take i) hf'
  obtain ⟨c2, c3, F2, F3, rfl, rfl, g2, g3⟩ := g23
  have l1 : c1.length = i * k := by rw [g1.length (hRl w), List.length_take]; congr 1; omega
  have hc2 := hc.right
  rw [l1] at hc2
  have l2 := hRl _ _ _ _ g2
  have nd := List.nodup_cons.1 hfr.1
  have nd1 := List.nodup_append.1 nd.2
  have nd2 := List.nodup_append.1 nd1.2.1
  have hbF2 : b ∉ F2 := fun hb => nd.1 (List.mem_append.2 (.inr (List.mem_append.2 (.inl hb))))
  refine ⟨b, off, c2, F2, cap, rfl, hc2.left, g2, ⟨nd2.1, fun x hx j => hfr.2 x (by simp [hx]) j⟩, hbF2, by simp, fun x hx => by simp [hx], fun j => hfr.2 b (by simp) j, ?_⟩
  intro w' y c' G2 hcell hblk hc' hy
  have k1 : Kept F1 w w' := fun x hx => hblk x (by simp [hx]) (fun e => nd.1 (by simp [← e, hx])) (fun hm => nd1.2.2 x hx x (by simp [hm]) rfl)
  have k3 : Kept F3 w w' := fun x hx => hblk x (by simp [hx]) (fun e => nd.1 (by simp [← e, hx])) (fun hm => nd2.2.2 x hm x hx rfl)
  have lc' := hRl' _ _ _ _ hy
  have hxs' : xs.set i y = xs.take i ++ (y :: xs.drop (i + 1)) := by rw [List.set_eq_take_append_cons_drop, if_pos hi]
  obtain ⟨F1', s1, e1⟩ := Flat.weaken (R := fun x cs H => ∃ G', (∀ b ∈ G', b ∈ H) ∧ R' w' x cs G') (R' := R' w') (fun _ _ _ h => h) (g1.mono fun x _ cs H hH hr => hconv _ _ x cs H (fun z hz => k1 z (hH z hz)) hr)
  obtain ⟨F3', s3, e3⟩ := Flat.weaken (R := fun x cs H => ∃ G', (∀ b ∈ G', b ∈ H) ∧ R' w' x cs G') (R' := R' w') (fun _ _ _ h => h) (g3.mono fun x _ cs H hH hr => hconv _ _ x cs H (fun z hz => k3 z (hH z hz)) hr)
  refine ⟨b :: (F1' ++ (G2 ++ F3')), fun x hx => ?_, ?_⟩
  · rcases List.mem_cons.1 hx with rfl | hx
    · simp
    · rcases List.mem_append.1 hx with hx | hx
      · left; simp [s1 x hx]
      · rcases List.mem_append.1 hx with hx | hx
        · right; exact hx
        · left; simp [s3 x hx]
  · rw [hxs']
    refine ⟨_, cap, by rw [← hxs', List.length_set], by rw [← hxs', List.length_set]; exact h1, h2, .inr ⟨b, off, c1 ++ (c' ++ c3), F1' ++ (G2 ++ F3'), rfl, ?_, ?_, rfl⟩⟩
    · refine CellsAt.append (fun j u hj => ?_) (CellsAt.append ?_ (fun j u hj => ?_))
      · have hjl := (List.getElem?_eq_some_iff.1 hj).1
        rw [hcell _ (.inl (by omega))]
        exact hc.left j u hj
      · rw [l1]; exact hc'
      · rw [l1, hcell _ (.inr (by omega))]
        have := hc2.right j u hj
        rw [l2] at this
        rwa [lc']
    · exact e1.append ⟨c', c3, G2, F3', rfl, rfl, hy, e3⟩

theorem KtO.toR' {w w' : World} {c : Kt} {cs : List Value} {F : List Nat} (hk : Kept F w w') (h : KtO w c cs F) : ∃ G, (∀ b ∈ G, b ∈ F) ∧ KtR w' c cs G := KtO.toR (KtO_mono _ _ _ _ _ hk h)
theorem DtO.toR' {w w' : World} {c : Dt} {cs : List Value} {F : List Nat} (hk : Kept F w w') (h : DtO w c cs F) : ∃ G, (∀ b ∈ G, b ∈ F) ∧ DtR w' c cs G := DtO.toR (DtO_mono _ _ _ _ _ hk h)
theorem KtR_len0 (w : World) (c : Kt) (cs : List Value) (F : List Nat) (h : KtR w c cs F) : cs.length = 3 := by obtain ⟨kv, rfl, -⟩ := h; rfl
theorem DtR_len0 (w : World) (c : Dt) (cs : List Value) (F : List Nat) (h : DtR w c cs F) : cs.length = 2 := by obtain ⟨kv, rfl, -⟩ := h; rfl

/-- a data type's name or its list of constructors written anew -/
theorem put1 {w : World} {xs : List Dt} {v : Value} {F : List Nat} (h : Arr w (DtO w) xs v F) (hfr : Free w F) {d : Nat} (hd : d < xs.length) :
    ∃ b off cap kv F2, v = .slice (some ⟨b, off, none⟩) xs.length cap ∧ b ∈ F ∧ (∀ x ∈ F2, x ∈ F ∧ x ≠ b) ∧ (∀ j, w.frozen? ⟨b, j, none⟩ = false) ∧ w.cell? ⟨b, off + d * 2, none⟩ = some (.string xs[d].name) ∧ w.cell? ⟨b, off + d * 2 + 1, none⟩ = some kv ∧
      Arr w (KtO w) xs[d].ctors kv F2 ∧ xs[d].name.size ≤ 9223372036854775807 ∧
      ∀ w' nm ks kv' G2, (∀ j, j < off + d * 2 ∨ off + d * 2 + 2 ≤ j → w'.cell? ⟨b, j, none⟩ = w.cell? ⟨b, j, none⟩) → (∀ x ∈ F, x ≠ b → w'.heap[x]? = w.heap[x]?) → w'.cell? ⟨b, off + d * 2, none⟩ = some (.string nm) → w'.cell? ⟨b, off + d * 2 + 1, none⟩ = some kv' →
        Arr w' (KtR w') ks kv' G2 → nm.size ≤ 9223372036854775807 → ∃ F', (∀ x ∈ F', x ∈ F ∨ x ∈ G2) ∧ Arr w' (DtR w') (xs.set d ⟨nm, ks⟩) v F' := by
  obtain ⟨b, off, c, F2, cap, e, hc, ⟨kv, rfl, ha, hs⟩, hf2, hb2, hbF, hsub, hz, H⟩ := Arr.put (R := DtO) (R' := DtR) DtO_len DtR_len0 (fun _ _ _ _ _ hk h => DtO.toR' hk h) h hfr hd
  refine ⟨b, off, cap, kv, F2, e, hbF, fun x hx => ⟨hsub x hx, fun e => hb2 (e ▸ hx)⟩, hz, by simpa using hc 0 _ rfl, hc 1 _ rfl, ha, hs, ?_⟩
  intro w' nm ks kv' G2 h1 h2 h3 h4 h5 h6
  exact H w' ⟨nm, ks⟩ [.string nm, kv'] G2 h1 (fun x hx hxb _ => h2 x hx hxb) (CellsAt.cons h3 (CellsAt.cons h4 (CellsAt.nil _ _ _))) ⟨kv', rfl, h5, h6⟩
/-- the first constructor of a data type written anew -/
theorem put2 {w : World} {xs : List Dt} {v : Value} {F : List Nat} (h : Arr w (DtO w) xs v F) (hfr : Free w F) {d : Nat} (hd : d < xs.length) (hk : 0 < xs[d].ctors.length) :
    ∃ b off cap b2 off2 cap2 av, v = .slice (some ⟨b, off, none⟩) xs.length cap ∧ b ∈ F ∧ b2 ∈ F ∧ b2 ≠ b ∧ (∀ j, w.frozen? ⟨b, j, none⟩ = false) ∧ (∀ j, w.frozen? ⟨b2, j, none⟩ = false) ∧
      w.cell? ⟨b, off + d * 2 + 1, none⟩ = some (.slice (some ⟨b2, off2, none⟩) xs[d].ctors.length cap2) ∧
      w.cell? ⟨b2, off2, none⟩ = some (.string xs[d].ctors[0].name) ∧ w.cell? ⟨b2, off2 + 1, none⟩ = some av ∧ w.cell? ⟨b2, off2 + 2, none⟩ = some (.int .i64 xs[d].ctors[0].idx) ∧
      Own w 0 37 2 TyR xs[d].ctors[0].args av [] ∧ (∀ x ∈ rowOf av, x ∈ F ∧ x ≠ b ∧ x ≠ b2) ∧ xs[d].ctors[0].name.size ≤ 9223372036854775807 ∧
      ∀ w' nm ags ix av' G2, (∀ j, j < off2 ∨ off2 + 3 ≤ j → w'.cell? ⟨b2, j, none⟩ = w.cell? ⟨b2, j, none⟩) → (∀ x ∈ F, x ≠ b2 → x ∉ rowOf av → w'.heap[x]? = w.heap[x]?) →
        w'.cell? ⟨b2, off2, none⟩ = some (.string nm) → w'.cell? ⟨b2, off2 + 1, none⟩ = some av' → w'.cell? ⟨b2, off2 + 2, none⟩ = some (.int .i64 ix) →
        Arr w' (TyR w') ags av' G2 → nm.size ≤ 9223372036854775807 → ∃ F', (∀ x ∈ F', x ∈ F ∨ x ∈ G2) ∧ Arr w' (DtR w') (xs.set d ⟨xs[d].name, xs[d].ctors.set 0 ⟨nm, ags, ix⟩⟩) v F' := by
  obtain ⟨b, off, c, F2, cap, e, hc, ⟨kv, rfl, ha, hs⟩, hf2, hb2, hbF, hsub, hz, H⟩ := Arr.put (R := DtO) (R' := DtR) DtO_len DtR_len0 (fun _ _ _ _ _ hk h => DtO.toR' hk h) h hfr hd
  obtain ⟨b2, off2, c2, F3, cap2, rfl, hc2, ⟨av, rfl, hown, rfl, hs2⟩, hf3, hb3, hbF2, hsub2, hz2, H2⟩ := Arr.put (R := KtO) (R' := KtR) KtO_len KtR_len0 (fun _ _ _ _ _ hk h => KtO.toR' hk h) ha hf2 hk
  simp only [Nat.zero_mul, Nat.add_zero] at hc2 H2
  refine ⟨b, off, cap, b2, off2, cap2, av, e, hbF, hsub _ hbF2, fun e => hb2 (e ▸ hbF2), hz, hz2, hc 1 _ rfl, by simpa using hc2 0 _ rfl, hc2 1 _ rfl, hc2 2 _ rfl, hown, fun x hx => ⟨hsub _ (hsub2 x hx), fun e => hb2 (e ▸ hsub2 x hx), fun e => hb3 (e ▸ hx)⟩, hs2, ?_⟩
  intro w' nm ags ix av' G2 h1 h2 h3 h4 h5 h6 h7
  obtain ⟨F2', s2, ha2⟩ := H2 w' ⟨nm, ags, ix⟩ [.string nm, av', .int .i64 ix] G2 h1 (fun x hx hxb hxa => h2 x (hsub x hx) hxb hxa) (CellsAt.cons h3 (CellsAt.cons h4 (CellsAt.cons h5 (CellsAt.nil _ _ _)))) ⟨av', rfl, h6, h7⟩
  have hbb : w'.heap[b]? = w.heap[b]? := h2 b hbF (fun e => hb2 (e ▸ hbF2)) (fun hx => hb2 (hsub2 _ hx))
  obtain ⟨F', s, ha'⟩ := H w' ⟨xs[d].name, xs[d].ctors.set 0 ⟨nm, ags, ix⟩⟩ [.string xs[d].name, .slice (some ⟨b2, off2, none⟩) xs[d].ctors.length cap2] F2' (fun j _ => World.cell?_of_block (a := ⟨b, j, none⟩) hbb)
    (fun x hx hxb hx2 => h2 x hx (fun e => hx2 (e ▸ hbF2)) (fun hxa => hx2 (hsub2 _ hxa))) (fun j u hj => (World.cell?_of_block (a := ⟨b, off + d * 2 + j, none⟩) hbb).trans (hc j u hj)) ⟨_, rfl, ha2, hs⟩
  exact ⟨F', fun x hx => by
    rcases s x hx with h | h
    · exact .inl h
    · rcases s2 x h with h | h
      · exact .inl (hsub x h)
      · exact .inr h, ha'⟩
end Go.Proofs.Ytbffkgfhcmigaaa

namespace Go.Proofs.Ytbffkgfhcmigaaa
open Go.RowKit

def ByR (_ : World) (x : Int) (cs : List Value) (F : List Nat) : Prop := cs = [.int .u8 x] ∧ F = [] ∧ 0 ≤ x ∧ x ≤ 255
theorem ByR_len (w : World) (x : Int) (cs : List Value) (F : List Nat) (h : ByR w x cs F) : cs.length = 1 := by rw [h.1]; rfl
theorem ArrBy.mono {w w' : World} {vs : List Int} {x : Value} {F : List Nat} (h : Arr w (ByR w) vs x F) (hF : Kept F w w') : Arr w' (ByR w') vs x F := h.mono hF fun v _ cs G _ h => h
theorem ArrBy.at {w : World} {b off n cap : Nat} {F : List Nat} {xs : List Int} (h : Arr w (ByR w) xs (.slice (some ⟨b, off, none⟩) n cap) F) (hF : Under w.heap.size F) (i : Nat) (hi : i < xs.length) :
    b < w.heap.size ∧ b ∈ F ∧ w.cell? ⟨b, off + i, none⟩ = some (.int .u8 xs[i]) ∧ 0 ≤ xs[i] ∧ xs[i] ≤ 255 := by
  obtain ⟨b', off', cs, G, e, hb, hcs, hv, hG⟩ := h.get (ByR_len w) hi
  cases e
  obtain ⟨rfl, -, h0, h1⟩ := hv
  have := hcs 0 _ rfl
  simp only [Nat.mul_one, Nat.add_zero] at this
  exact ⟨hF _ hb, hb, this, h0, h1⟩
theorem Arr.take {α : Type} {w : World} {R : α → List Value → List Nat → Prop} {xs : List α} {A : Option Addr} {n cap : Nat} {F : List Nat} (h : Arr w R xs (.slice A n cap) F) (m : Nat) (hm : m ≤ xs.length) (hm0 : 0 < m) : ∃ G, Arr w R (xs.take m) (.slice A m cap) G ∧ ∀ b ∈ G, b ∈ F := by
  obtain ⟨A', cap', hv, h1, h2, h3⟩ := h
  cases hv
  have hl : (xs.take m).length = m := by rw [List.length_take]; omega
  rcases h3 with ⟨rfl, -⟩ | ⟨b, off, cs, G, rfl, hc, hf, rfl⟩
  · simp at hm; omega
  · have hxs : xs = xs.take m ++ xs.drop m := (List.take_append_drop m xs).symm
    rw [hxs] at hf
    obtain ⟨c1, c2, F1, F2, rfl, rfl, g1, g2⟩ := Flat.split (xs.take m) hf
    exact ⟨b :: F1, ⟨_, cap, by rw [hl], by rw [hl]; omega, h2, .inr ⟨b, off, c1, F1, rfl, hc.left, g1, rfl⟩⟩, fun x hx => by
      rcases List.mem_cons.1 hx with h | h
      · simp [h]
      · simp [h]⟩
/-- the reader in block g: it has given p numbers -/
def Rd (w : World) (g p : Nat) : Prop := ∃ A cap bs F, Blk w g 187 #[.slice A bs.length cap, .int .i64 (p : Int)] ∧ Arr w (ByR w) bs (.slice A bs.length cap) F ∧ Under g F ∧ bs.length ≤ 2000
theorem Rd.lt {w : World} {g p : Nat} (h : Rd w g p) : g < w.heap.size := by obtain ⟨A, cap, bs, F, h1, -⟩ := h; exact h1.lt
theorem Rd.below {w w' : World} {g p : Nat} (h : Rd w g p) (hb : Below w.heap.size w w') : Rd w' g p := by
  obtain ⟨A, cap, bs, F, h1, h2, h3, h5⟩ := h
  exact ⟨A, cap, bs, F, h1.same (hb.block _ h1.lt), ArrBy.mono h2 (.of_below hb (h3.mono (Nat.le_of_lt h1.lt))), h3, h5⟩
theorem Rd.set {w : World} {g p b j : Nat} {u : Value} (h : Rd w g p) (hb : g < b) : Rd (w.setCell ⟨b, j, none⟩ u) g p := by
  obtain ⟨A, cap, bs, F, h1, h2, h3, h5⟩ := h
  exact ⟨A, cap, bs, F, h1.same (Below.heap_setCell _ _ _ _ (by show g ≠ b; omega)), ArrBy.mono h2 (fun c hc => Below.heap_setCell _ _ _ _ (by have := h3 c hc; show c ≠ b; omega)), h3, h5⟩
theorem Rd.drew {w : World} {g p : Nat} (h : Rd w g p) : Rd w.drew g p := h
theorem Rd.drewN {w : World} {g p : Nat} (h : Rd w g p) (n : Nat) : Rd (w.drewN n) g p := h
theorem Rd.chg {w w' : World} {g p : Nat} {F : List Nat} (h : Rd w g p) (hc : Chg F w w') (hF : ∀ b ∈ F, w.heap.size ≤ b) : Rd w' g p :=
  h.below ⟨hc.os, hc.tape, hc.output, hc.size, fun b hb => hc.block b hb (fun hf => Nat.lt_irrefl _ (Nat.lt_of_lt_of_le hb (hF b hf)))⟩
theorem i64_xor_nat (a b : Nat) (ha : a < 9223372036854775808) (hb : b < 9223372036854775808) : bits .xor .i64 (a : Int) (b : Int) = ((a ^^^ b : Nat) : Int) := by
  have hx : a ^^^ b < 2 ^ 63 := Nat.xor_lt_two_pow (by omega) (by omega)
  show IntKind.i64.wrap ((BitVec.ofInt 64 (a : Int) ^^^ BitVec.ofInt 64 (b : Int)).toNat : Int) = _
  rw [BitVec.toNat_xor, ofInt_u64 a (by omega), ofInt_u64 b (by omega)]
  exact IntWalk.i64_in _ (by omega)
set_option maxRecDepth 100000 in
set_option maxHeartbeats 1600000 in
theorem pick_any (n p g : Nat) (w : World) (h : Rd w g p) (hp : p ≤ 1000000) (hn : 1 ≤ n) (hn2 : n ≤ 1000000) :
    Calls Try.prog 114 #[.pointer (some ⟨g, 0, none⟩), .int .i64 (n : Int)] w fun e w' => ∃ r : Nat, e = .returned (.int .i64 (r : Int)) ∧ r < n ∧ Rd w' g (p + 1) ∧ Chg [g] w w' := by
  obtain ⟨A, cap, bs, F, hk, ha, hu, hbl⟩ := h
  have hf : Under w.heap.size F := hu.mono (Nat.le_of_lt hk.lt)
  have hg : g ∉ F := fun h => Nat.lt_irrefl _ (hu g h)
  have HU := Lib.hid hu
  clear hu
  have c0 : w.cell? ⟨g, 0, none⟩ = some (.slice A bs.length cap) := (hk.cell 0).trans (by simp)
  have c1 : w.cell? ⟨g, 1, none⟩ = some (.int .i64 (p : Int)) := (hk.cell 1).trans (by simp)
  have f1 := hk.frozen 1
  have hlt := hk.lt
  have HK := Lib.hid hk
  have HA := Lib.hid ha
  have HF := Lib.hid hf
  have HG := Lib.hid hg
  clear hk ha hf hg
  have t0 : decide ((n : Int) < 1) = false := decide_eq_false (by omega)
  have KR : Blk (w.setCell ⟨g, 1, none⟩ (.int .i64 ((p : Int) + 1))) g 187 #[.slice A bs.length cap, .int .i64 ((p : Int) + 1)] := HK.out.set_ 1 _
  have hCG : Chg [g] w (w.setCell ⟨g, 1, none⟩ (.int .i64 ((p : Int) + 1))) := (Chg.refl _ _).set (by simp)
  have hRd : Hid (Rd (w.setCell ⟨g, 1, none⟩ (.int .i64 ((p : Int) + 1))) g (p + 1)) := ⟨A, cap, bs, F, KR, ArrBy.mono HA.out (hCG.kept HF.out (fun b hb => by simp; intro e; exact HG.out (e ▸ hb))), HU.out, hbl⟩
  have HCG := Lib.hid hCG
  clear KR hCG
  by_cases hb0 : bs.length = 0
  · have t1 : ((bs.length : Int) == 0) = true := beq_iff_eq.2 (by omega)
    go_enter Try.func114, Try.ntmps114
    go_wp2
    go_ret
    exact ⟨0, rfl, by omega, hRd.out, HCG.out⟩
  · have t1 : ((bs.length : Int) == 0) = false := by rw [beq_eq_false_iff_ne]; omega
    obtain ⟨b, off, rfl⟩ := HA.out.ptr (by omega)
    by_cases hpl : p < bs.length
    · have t2 : decide ((p : Int) < (bs.length : Int)) = true := decide_eq_true (by omega)
      have g1 : (0 : Int) ≤ (p : Int) := by omega
      obtain ⟨hbw, hbF, x0, hx0, hx1⟩ := ArrBy.at HA.out HF.out p hpl
      have hbg : g ≠ b := fun e => HG.out (e ▸ hbF)
      generalize hX : bs[p] = X at *
      obtain ⟨Xn, rfl⟩ := Int.eq_ofNat_of_zero_le hx0
      have hw1 : IntKind.i64.wrap (Xn : Int) = (Xn : Int) := IntWalk.i64_in _ (by omega)
      clear hX
      go_enter Try.func114, Try.ntmps114
      go_wp2
      go_ret
      exact ⟨Xn % n, rfl, Nat.mod_lt _ (by omega), hRd.out, HCG.out⟩
    · have t2 : decide ((p : Int) < (bs.length : Int)) = false := decide_eq_false (by omega)
      obtain ⟨q1, hq1⟩ : ∃ q, q = p % bs.length := ⟨_, rfl⟩
      obtain ⟨q2, hq2⟩ : ∃ q, q = (p * 7 + 3) % bs.length := ⟨_, rfl⟩
      obtain ⟨q3, hq3⟩ : ∃ q, q = p / bs.length := ⟨_, rfl⟩
      have l1 : q1 < bs.length := by rw [hq1]; exact Nat.mod_lt _ (by omega)
      have l2 : q2 < bs.length := by rw [hq2]; exact Nat.mod_lt _ (by omega)
      have l3 : q3 ≤ 1000000 := by rw [hq3]; exact Nat.le_trans (Nat.div_le_self _ _) hp
      obtain ⟨hbw, hbF, x1, hx0, hx1⟩ := ArrBy.at HA.out HF.out q1 l1
      obtain ⟨-, -, x2, hy0, hy1⟩ := ArrBy.at HA.out HF.out q2 l2
      have hbg : g ≠ b := fun e => HG.out (e ▸ hbF)
      generalize hX : bs[q1] = X at *
      generalize hY : bs[q2] = Y at *
      obtain ⟨Xn, rfl⟩ := Int.eq_ofNat_of_zero_le hx0
      obtain ⟨Yn, rfl⟩ := Int.eq_ofNat_of_zero_le hy0
      have m1 : (p : Int).tmod (bs.length : Int) = (q1 : Int) := by rw [Int.tmod_eq_emod_of_nonneg (by omega), hq1]; rfl
      have m1' : (p : Int) % (bs.length : Int) = (q1 : Int) := by rw [hq1]; rfl
      have m2 : ((p : Int) * 7 + 3).tmod (bs.length : Int) = (q2 : Int) := by rw [Int.tmod_eq_emod_of_nonneg (by omega), hq2]; push_cast; rfl
      have m2' : ((p : Int) * 7 + 3) % (bs.length : Int) = (q2 : Int) := by rw [hq2]; push_cast; rfl
      have m3 : (p : Int).tdiv (bs.length : Int) = (q3 : Int) := by rw [hq3]; rfl
      have m3' : (p : Int) / (bs.length : Int) = (q3 : Int) := by rw [hq3]; rfl
      have n1 : (0 : Int) ≤ (q1 : Int) := by omega
      have n2 : (q1 : Int) < (bs.length : Int) := by omega
      have n3 : (0 : Int) ≤ (q2 : Int) := by omega
      have n4 : (q2 : Int) < (bs.length : Int) := by omega
      have n5 : (bs.length : Int) ≠ 0 := by omega
      have a1 : IntKind.i64.wrap ((Xn : Int) * 131) = (Xn : Int) * 131 := IntWalk.i64_in _ (by omega)
      have a2 : IntKind.i64.wrap ((p : Int) * 7) = (p : Int) * 7 := IntWalk.i64_in _ (by omega)
      have a3 : IntKind.i64.wrap ((p : Int) * 7 + 3) = (p : Int) * 7 + 3 := IntWalk.i64_in _ (by omega)
      have a4 : IntKind.i64.wrap ((Yn : Int) * 1117) = (Yn : Int) * 1117 := IntWalk.i64_in _ (by omega)
      have a5 : IntKind.i64.wrap ((Xn : Int) * 131 + (Yn : Int) * 1117) = (Xn : Int) * 131 + (Yn : Int) * 1117 := IntWalk.i64_in _ (by omega)
      have a6 : IntKind.i64.wrap ((p : Int) * 29) = (p : Int) * 29 := IntWalk.i64_in _ (by omega)
      have a7 : IntKind.i64.wrap ((Xn : Int) * 131 + (Yn : Int) * 1117 + (p : Int) * 29) = (Xn : Int) * 131 + (Yn : Int) * 1117 + (p : Int) * 29 := IntWalk.i64_in _ (by omega)
      have a8 : IntKind.i64.wrap (q3 : Int) = (q3 : Int) := IntWalk.i64_in _ (by omega)
      have a9 : IntKind.i64.wrap ((q3 : Int) * 53) = (q3 : Int) * 53 := IntWalk.i64_in _ (by omega)
      have aa : IntKind.i64.wrap ((Xn : Int) * 131 + (Yn : Int) * 1117 + (p : Int) * 29 + (q3 : Int) * 53) = (Xn : Int) * 131 + (Yn : Int) * 1117 + (p : Int) * 29 + (q3 : Int) * 53 := IntWalk.i64_in _ (by omega)
      have ab : IntKind.i64.wrap (Xn : Int) = (Xn : Int) := IntWalk.i64_in _ (by omega)
      have ac : IntKind.i64.wrap (Yn : Int) = (Yn : Int) := IntWalk.i64_in _ (by omega)
      obtain ⟨T, hT⟩ : ∃ T : Nat, (Xn : Int) * 131 + (Yn : Int) * 1117 + (p : Int) * 29 + (q3 : Int) * 53 = (T : Int) := ⟨Xn * 131 + Yn * 1117 + p * 29 + q3 * 53, by push_cast; rfl⟩
      have hTl : T ≤ 1000000000 := by omega
      have hd : (T : Int).tdiv 64 = ((T / 64 : Nat) : Int) := rfl
      have hd' : (T : Int) / 64 = ((T / 64 : Nat) : Int) := rfl
      have hxr := i64_xor_nat T (T / 64) (by omega) (by omega)
      have hxw : IntKind.i64.wrap ((T / 64 : Nat) : Int) = ((T / 64 : Nat) : Int) := IntWalk.i64_in _ (by omega)
      clear hX hY hq1 hq2 hq3 hb0
      go_enter Try.func114, Try.ntmps114
      go_wp2_with fail
      have hxr2 : bits .xor .i64 (T : Int) ((T : Int) / 64) = ((T ^^^ (T / 64) : Nat) : Int) := hxr
      have hXl : T ^^^ (T / 64) < 2 ^ 40 := Nat.xor_lt_two_pow (by omega) (by omega)
      generalize hXe : T ^^^ (T / 64) = X at hxr hxr2 hXl
      have hXm : (X : Int).tmod (n : Int) = ((X % n : Nat) : Int) := rfl
      have hXw : IntKind.i64.wrap (X : Int) = (X : Int) := IntWalk.i64_in _ (by omega)
      clear hXe hxr hd hd' hxw
      go_quiet (fail)
      clear x1 x2 m1 m1' m2 m2' m3 m3' n1 n2 n3 n4 n5 a1 a2 a3 a4 a5 a6 a7 a8 a9 aa ab ac
      go_wp2
      go_ret
      exact ⟨X % n, rfl, Nat.mod_lt _ (by omega), hRd.out.drewN _, HCG.out.drewN _⟩
set_option maxRecDepth 100000 in
set_option maxHeartbeats 1600000 in
theorem spec_l17Open (bs : List Int) (w : World) (v : Value) (F : List Nat) (hx : Arr w (ByR w) bs v F) (hf : Under w.heap.size F) :
    Calls Try.prog 112 #[v] w fun e w' => ∃ g : Nat, e = .returned (.pointer (some ⟨g, 0, none⟩)) ∧ w.heap.size ≤ g ∧ Below w.heap.size w w' ∧ Rd w' g 0 := by
  obtain ⟨A, cap, rfl, hc1, hc2⟩ := hx.form
  have hbl : ∀ (A : Option Addr) (cap : Nat) (bs : List Int) (F : List Nat), Arr w (ByR w) bs (.slice A bs.length cap) F → Under w.heap.size F → bs.length ≤ 2000 → Rd (w.alloc (.cells #[.slice A bs.length cap, .int .i64 0] 187)) w.heap.size 0 := fun A cap bs F h1 h2 h3 =>
    ⟨A, cap, bs, F, Blk.new _ _ _, ArrBy.mono h1 (.of_below ((Below.refl _ _).alloc (Nat.le_refl _) _) h2), h2, h3⟩
  have HBL := Lib.hid hbl
  have HX := Lib.hid hx
  have HF := Lib.hid hf
  clear hx hf
  clear hbl
  by_cases hl : 2000 < bs.length
  · have t0 : decide ((bs.length : Int) > 2000) = true := decide_eq_true (by omega)
    obtain ⟨b, off, rfl⟩ := HX.out.ptr (by omega)
    obtain ⟨G, hG, hGF⟩ := HX.out.take 2000 (by omega) (by omega)
    have hlt : (bs.take 2000).length = 2000 := by rw [List.length_take]; omega
    have hr := HBL.out (some ⟨b, off, none⟩) cap (bs.take 2000) G (by rw [hlt]; exact hG) (HF.out.sub hGF) (by rw [hlt]; exact Nat.le_refl _)
    rw [hlt] at hr
    have HRD := Lib.hid hr
    have g1 : (2000 : Int) ≤ (bs.length : Int) := by omega
    have g2 : 2000 ≤ cap := by omega
    clear hr hG hlt
    go_enter Try.func112, Try.ntmps112
    go_wp2
    go_ret
    exact ⟨w.heap.size, rfl, Nat.le_refl _, (Below.refl _ _).alloc (Nat.le_refl _) _, HRD.out⟩
  · have t0 : decide ((bs.length : Int) > 2000) = false := decide_eq_false (by omega)
    have HRD := Lib.hid (HBL.out _ _ _ F HX.out HF.out (by omega))
    go_enter Try.func112, Try.ntmps112
    go_wp2
    go_ret
    exact ⟨w.heap.size, rfl, Nat.le_refl _, (Below.refl _ _).alloc (Nat.le_refl _) _, HRD.out⟩
end Go.Proofs.Ytbffkgfhcmigaaa

namespace Go.Proofs.Ytbffkgfhcmigaaa
open Go.RowKit

set_option maxRecDepth 100000 in
set_option maxHeartbeats 1600000 in
theorem num_any (ls : List Int) (hl1 : 1 ≤ ls.length) (hl2 : ls.length ≤ 1000) (p g : Nat) (w : World) (h : Rd w g p) (hp : p ≤ 1000000) (v : Value) (F : List Nat) (hx : Arr w (NatR w) ls v F) (hf : Under w.heap.size F) (hg : g ∉ F) :
    Calls Try.prog 158 #[.pointer (some ⟨g, 0, none⟩), v] w fun e w' => ∃ x, x ∈ ls ∧ e = .returned (.int .i64 x) ∧ Rd w' g (p + 1) ∧ Chg [g] w w' := by
  obtain ⟨A, cap, rfl, hc1, hc2⟩ := hx.form
  obtain ⟨b, off, rfl⟩ := hx.ptr (by omega)
  have HX := Lib.hid hx
  have HF := Lib.hid hf
  have HG := Lib.hid hg
  have HCALL := Lib.hid (pick_any ls.length p g w h hp hl1 (by omega))
  clear hx hf hg h
  go_enter Try.func158, Try.ntmps158
  go_wp2_with fail
  refine HCALL.out.mono ?_
  rintro e w' ⟨r, rfl, hr, hR, hC⟩
  obtain ⟨hb, c0⟩ := ArrNat.at HX.out HF.out (Below.refl _ _) r hr
  have hbF : b ∉ [g] := by
    obtain ⟨b', off', cs', G', e', hb', -⟩ := HX.out.get (NatR_len w) hr
    cases e'
    exact fun h => HG.out (by rw [← List.mem_singleton.1 h]; exact hb')
  have c1 : w'.cell? ⟨b, off + r, none⟩ = some (.int .i64 ls[r]) := (hC.cell hb hbF).trans c0
  have g1 : (0 : Int) ≤ (r : Int) := by omega
  have g2 : (r : Int) < (ls.length : Int) := by omega
  have HR := Lib.hid hR
  have HC := Lib.hid hC
  have HM := Lib.hid (List.getElem_mem hr)
  clear hR hC c0 HCALL
  go_wp2
  go_ret
  exact ⟨ls[r], HM.out, rfl, HR.out, HC.out⟩
set_option maxRecDepth 100000 in
set_option maxHeartbeats 1600000 in
theorem of_any (ls : List ByteArray) (hl1 : 1 ≤ ls.length) (hl2 : ls.length ≤ 1000) (p g : Nat) (w : World) (h : Rd w g p) (hp : p ≤ 1000000) (v : Value) (F : List Nat) (hx : Arr w (StrR w) ls v F) (hf : Under w.heap.size F) (hg : g ∉ F) :
    Calls Try.prog 160 #[.pointer (some ⟨g, 0, none⟩), v] w fun e w' => ∃ x, x ∈ ls ∧ e = .returned (.string x) ∧ Rd w' g (p + 1) ∧ Chg [g] w w' := by
  obtain ⟨A, cap, rfl, hc1, hc2⟩ := hx.form
  obtain ⟨b, off, rfl⟩ := hx.ptr (by omega)
  have HX := Lib.hid hx
  have HF := Lib.hid hf
  have HG := Lib.hid hg
  have HCALL := Lib.hid (pick_any ls.length p g w h hp hl1 (by omega))
  clear hx hf hg h
  go_enter Try.func160, Try.ntmps160
  go_wp2_with fail
  refine HCALL.out.mono ?_
  rintro e w' ⟨r, rfl, hr, hR, hC⟩
  obtain ⟨hb, c0⟩ := ArrStr.at HX.out HF.out (Below.refl _ _) r hr
  have hbF : b ∉ [g] := by
    obtain ⟨b', off', cs', G', e', hb', -⟩ := HX.out.get (StrR_len w) hr
    cases e'
    exact fun h => HG.out (by rw [← List.mem_singleton.1 h]; exact hb')
  have c1 : w'.cell? ⟨b, off + r, none⟩ = some (.string ls[r]) := (hC.cell hb hbF).trans c0
  have g1 : (0 : Int) ≤ (r : Int) := by omega
  have g2 : (r : Int) < (ls.length : Int) := by omega
  have HR := Lib.hid hR
  have HC := Lib.hid hC
  have HM := Lib.hid (List.getElem_mem hr)
  clear hR hC c0 HCALL
  go_wp2
  go_ret
  exact ⟨ls[r], HM.out, rfl, HR.out, HC.out⟩

theorem lit_nums (w : World) (ls : List Int) (hl : ls.length ≤ 1000) : Arr (w.alloc (.cells (ls.map (Value.int .i64)).toArray 3)) (NatR (w.alloc (.cells (ls.map (Value.int .i64)).toArray 3))) ls (.slice (some ⟨w.heap.size, 0, none⟩) ls.length ls.length) [w.heap.size] := by
  refine ⟨_, _, rfl, Nat.le_refl _, by unfold maxLen; omega, .inr ⟨w.heap.size, 0, ls.map (Value.int .i64), [], rfl, fun j u hj => ?_, ?_, rfl⟩⟩
  · rw [Nat.zero_add]
    refine ((Blk.new w 3 (ls.map (Value.int .i64)).toArray).cell j).trans ?_
    simpa using hj
  · clear hl
    induction ls with
    | nil => exact ⟨rfl, rfl⟩
    | cons x xs ih => exact ⟨[.int .i64 x], xs.map (Value.int .i64), [], [], rfl, rfl, ⟨rfl, rfl⟩, ih⟩
theorem lit_strs (w : World) (ls : List ByteArray) (hl : ls.length ≤ 1000) : Arr (w.alloc (.cells (ls.map Value.string).toArray 9)) (StrR (w.alloc (.cells (ls.map Value.string).toArray 9))) ls (.slice (some ⟨w.heap.size, 0, none⟩) ls.length ls.length) [w.heap.size] := by
  refine ⟨_, _, rfl, Nat.le_refl _, by unfold maxLen; omega, .inr ⟨w.heap.size, 0, ls.map Value.string, [], rfl, fun j u hj => ?_, ?_, rfl⟩⟩
  · rw [Nat.zero_add]
    refine ((Blk.new w 9 (ls.map Value.string).toArray).cell j).trans ?_
    simpa using hj
  · clear hl
    induction ls with
    | nil => exact ⟨rfl, rfl⟩
    | cons x xs ih => exact ⟨[.string x], xs.map Value.string, [], [], rfl, rfl, ⟨rfl, rfl⟩, ih⟩
/-- a number out of a list that is written out at the call -/
theorem num_lit (ls : List Int) (hl1 : 1 ≤ ls.length) (hl2 : ls.length ≤ 1000) (p g : Nat) (w : World) (h : Rd w g p) (hp : p ≤ 1000000) :
    Calls Try.prog 158 #[.pointer (some ⟨g, 0, none⟩), .slice (some ⟨w.heap.size, 0, none⟩) ls.length ls.length] (w.alloc (.cells (ls.map (Value.int .i64)).toArray 3)) fun e w' => ∃ x, x ∈ ls ∧ e = .returned (.int .i64 x) ∧ Rd w' g (p + 1) ∧ Chg [g] w w' := by
  have hb : Below w.heap.size w (w.alloc (.cells (ls.map (Value.int .i64)).toArray 3)) := (Below.refl _ _).alloc (Nat.le_refl _) _
  have hlt := h.lt
  refine (num_any ls hl1 hl2 p g _ (h.below hb) hp _ _ (lit_nums w ls hl2) (fun b hb => by rw [List.mem_singleton.1 hb]; simp) (fun e => by rw [List.mem_singleton] at e; omega)).mono ?_
  rintro e w' ⟨x, hx, rfl, hR, hC⟩
  exact ⟨x, hx, rfl, hR, (Chg.of_below hb).trans hC⟩
theorem of_lit (ls : List ByteArray) (hl1 : 1 ≤ ls.length) (hl2 : ls.length ≤ 1000) (p g : Nat) (w : World) (h : Rd w g p) (hp : p ≤ 1000000) :
    Calls Try.prog 160 #[.pointer (some ⟨g, 0, none⟩), .slice (some ⟨w.heap.size, 0, none⟩) ls.length ls.length] (w.alloc (.cells (ls.map Value.string).toArray 9)) fun e w' => ∃ x, x ∈ ls ∧ e = .returned (.string x) ∧ Rd w' g (p + 1) ∧ Chg [g] w w' := by
  have hb : Below w.heap.size w (w.alloc (.cells (ls.map Value.string).toArray 9)) := (Below.refl _ _).alloc (Nat.le_refl _) _
  have hlt := h.lt
  refine (of_any ls hl1 hl2 p g _ (h.below hb) hp _ _ (lit_strs w ls hl2) (fun b hb => by rw [List.mem_singleton.1 hb]; simp) (fun e => by rw [List.mem_singleton] at e; omega)).mono ?_
  rintro e w' ⟨x, hx, rfl, hR, hC⟩
  exact ⟨x, hx, rfl, hR, (Chg.of_below hb).trans hC⟩
end Go.Proofs.Ytbffkgfhcmigaaa

namespace Go.Proofs.Ytbffkgfhcmigaaa
open Go.RowKit

set_option maxRecDepth 100000 in
set_option maxHeartbeats 6400000 in
theorem spec_ParseWorld (text : ByteArray) (hs : text.size ≤ 1000000) (w : World) :
    Calls Try.prog 185 #[.string text] w (GivesWorld w (parseB text)) := by
  obtain ⟨i0, hi, hz0, hz1, hz2⟩ := info_parts info_KtE
  have HI := Lib.hid hi
  have HZ0 := Lib.hid hz0
  have HZ1 := Lib.hid hz1
  have HZ2 := Lib.hid hz2
  clear hi hz0 hz1 hz2
  obtain ⟨j0, hj, hj0, hj1, hj2⟩ := info_parts info_strE
  have HJ := Lib.hid hj
  have HJ0 := Lib.hid hj0
  have HJ1 := Lib.hid hj1
  have HJ2 := Lib.hid hj2
  clear hj hj0 hj1 hj2
  obtain ⟨m0, hm, hm0, hm1, hm2⟩ := info_parts info_DtE
  have HM := Lib.hid hm
  have HM0 := Lib.hid hm0
  have HM1 := Lib.hid hm1
  have HM2 := Lib.hid hm2
  clear hm hm0 hm1 hm2
  go_enter Try.func185, Try.ntmps185
  go_wp2_with fail
  have hB1 : Below w.heap.size w ((w.alloc (.cells #[] 112)).alloc (.cells #[] 9)) := ((Below.refl _ _).alloc (Nat.le_refl _) _).alloc (by simp) _
  have HO1 : Hid (Own ((w.alloc (.cells #[] 112)).alloc (.cells #[] 9)) w.heap.size 112 2 DtR ([] : List Dt) (.slice (some ⟨w.heap.size, 0, none⟩) 0 0) []) := (Own.made w w.heap.size 112 2 DtR #[] 0 (Nat.le_refl _) (by simp [maxLen]) rfl).below (fun x cs G hk h => DtR_mono' _ _ x cs G hk h) ((Below.refl _ _).alloc (Nat.le_refl _) _)
  have HN1 : Hid (Own ((w.alloc (.cells #[] 112)).alloc (.cells #[] 9)) (w.heap.size + 1) 9 1 StrR (namesOf []) (.slice (some ⟨w.heap.size + 1, 0, none⟩) 0 0) []) := by
    have h := Own.made (w.alloc (.cells #[] 112)) (w.heap.size + 1) 9 1 StrR #[] 0 (by simp) (by simp [maxLen]) rfl
    rw [World.size_alloc] at h
    exact h
  have hsz1 : (((w.alloc (.cells #[] 112)).alloc (.cells #[] 9))).heap.size = w.heap.size + 2 := by simp
  obtain ⟨wb, hwb⟩ : ∃ wb, wb = ((w.alloc (.cells #[] 112)).alloc (.cells #[] 9)) := ⟨_, rfl⟩
  rw [← hwb] at hB1 HO1 HN1 hsz1 ⊢
  clear hwb
  have hcut : Calls Try.prog 200 #[.string text, .int .u8 59] wb (MadeStrs wb (cutS 59 text)) := spec_l17Cut text 59 hs wb
  have hpos := cutS_pos 59 text
  have hlm := cutS_mem 59 text
  have hlen := cutS_len 59 text
  obtain ⟨lines, hlines⟩ : ∃ l, cutS 59 text = l := ⟨_, rfl⟩
  rw [hlines] at hcut hpos hlm hlen
  have HLN := Lib.hid hlines
  have HLM := Lib.hid hlm
  clear hlines hlm
  refine hcut.mono ?_
  rintro e w3 ⟨v3, F3, rfl, hb3, ha3, -, hfs3⟩
  obtain ⟨A3, cap3, rfl, hc3, hc4⟩ := ha3.form
  have hB3 := hB1.trans (hb3.mono hB1.size)
  have HO3 := Lib.hid (HO1.out.below (fun x cs G hk h => DtR_mono' _ _ x cs G hk h) hb3)
  have HNN := Lib.hid (HN1.out.below (fun x cs G hk h => StrR_mono _ _ x cs G hk h) hb3)
  have HA3 := Lib.hid ha3
  have HU3 := Lib.hid hfs3.under
  have HN3 : Hid (∀ b ∈ F3, w.heap.size + 2 ≤ b) := fun b hb => by have := (hfs3 b hb).1; omega
  have hw3 : w.heap.size + 2 ≤ w3.heap.size := by have := hb3.size; omega
  clear hb3 ha3 hfs3 HO1 HN1 hcut hB1 hsz1
  by_cases h0 : text.size = 0
  · skip
    have q0 : (text.toList == []) = true := by
      rw [beq_iff_eq, toList_tl]; exact List.eq_nil_of_length_eq_zero (by rw [tl_len]; exact h0)
    have HPS : Hid (parseS text = some []) := by unfold Hid parseS linesT; rw [if_pos h0]; rfl
    have u1 : (0 : Int) < (lines.length : Int) := by omega
    clear h0
    go_wp2
    go_loopw [5, 7] (fun nv iv wr => nv = .slice (some ⟨w.heap.size + 1, 0, none⟩) 0 0 ∧ iv = .int .i64 0 ∧ Below w3.heap.size w3 wr) (fun _ _ _ => 0)
    case atStart => exact ⟨rfl, rfl, Below.refl _ _⟩
    case round =>
      obtain ⟨rfl, rfl, hb4⟩ := hrel
      go_wp2
      obtain ⟨w4, hw4⟩ : ∃ w4, w4 = wr := ⟨_, rfl⟩
      rw [← hw4] at hb4 ⊢
      clear hw4
      go_loopw [4, 9] (fun ov iv wr => ov = .slice (some ⟨w.heap.size, 0, none⟩) 0 0 ∧ iv = .int .i64 0 ∧ Below w3.heap.size w3 wr) (fun _ _ _ => 0)
      case atStart => exact ⟨rfl, rfl, hb4⟩
      case round =>
        clear hb4
        obtain ⟨rfl, rfl, hb5⟩ := hrel
        have hB5 := hB3.trans (hb5.mono hB3.size)
        obtain ⟨ee, hee⟩ : ∃ ee : List Dt, ee = [] := ⟨_, rfl⟩
        have HO : Hid (Own wr w.heap.size 112 2 DtR ee (.slice (some ⟨w.heap.size, 0, none⟩) 0 0) []) := by rw [hee]; exact HO3.out.below (fun x cs G hk h => DtR_mono' _ _ x cs G hk h) hb5
        rw [← hee] at HPS
        clear hee
        have HFr : Hid (Free wr ([] : List Nat)) := Free.nil _
        have HFh : Hid (∀ b ∈ ([] : List Nat), w.heap.size ≤ b) := fun b hb => by cases hb
        clear HO3
        have harr := HO.out.arr
        have hfree := HO.out.free HFr.out
        have hfresh := Own.fresh (w0 := w) HO.out (Nat.le_refl _) HFh.out
        generalize (if ee = [] then [] else rowOf (.slice (some ⟨w.heap.size, 0, none⟩) 0 0) ++ ([] : List Nat)) = FF at harr hfree hfresh
        have HARR := Lib.hid harr
        have HFREE := Lib.hid hfree
        have HFRESH := Lib.hid hfresh
        clear harr hfree hfresh HO HFr HFh
        generalize hxx : ee = xx at *
        clear hxx
        go_wp2_with fail
        refine (spec_WorldValid xx wr _ FF HARR.out HFRESH.out.under).mono ?_
        rintro e w8 ⟨rfl, hb8⟩
        have hB8 := hB5.trans (hb8.mono hB5.size)
        cases e1 : worldOk xx with
        | false =>
          have HNO := Lib.hid (parseB_no HPS.out e1)
          clear e1
          have hfin : GivesWorld w (parseB text) (.returned (.tuple #[.slice (some ⟨w8.heap.size, 0, none⟩) 0 0, .bool false])) (w8.alloc (.cells #[] 112)) := by
            rw [HNO.out]
            exact ⟨_, [], rfl, hB8.alloc hB8.size _, ⟨_, _, rfl, by simp, by simp [maxLen], .inl ⟨rfl, rfl⟩⟩, Free.nil _, Fresh.nil _ _⟩
          have HFin := Lib.hid hfin
          clear hfin
          go_wp2
          go_ret2
          exact HFin.out
        | true =>
          have HW := Lib.hid (worldOK e1)
          have HE1 := Lib.hid e1
          clear e1
          have HA8 := Lib.hid (ArrDt.below HARR.out hb8 HFRESH.out.under)
          have hF8 := Lib.hid (HFRESH.out.under.mono hb8.size)
          go_wp2_with fail
          refine (spec_l1Text xx HW.out w8 _ FF HA8.out hF8.out).mono ?_
          rintro e w9 ⟨rfl, hb9⟩
          have hB9 := hB8.trans (hb9.mono hB8.size)
          have hb89 := hb8.trans (hb9.mono hb8.size)
          generalize htt : bs (textT xx) = tt
          cases e2 : (tt.toList == text.toList) with
          | true =>
            have HYES : Hid (parseB text = some xx) := parseB_yes HPS.out HE1.out (by rw [beq_iff_eq, toList_tl, toList_tl, ← htt, tl_bs] at e2; exact e2)
            have hfin : GivesWorld w (parseB text) (.returned (.tuple #[.slice (some ⟨w.heap.size, 0, none⟩) 0 0, .bool true])) w9 := by
              rw [HYES.out]
              exact ⟨_, FF, rfl, hB9, ArrDt.below HARR.out hb89 HFRESH.out.under, HFREE.out.kept (.of_below hb89 HFRESH.out.under), fun b hb => ⟨(HFRESH.out b hb).1, Nat.lt_of_lt_of_le (HFRESH.out b hb).2 hb89.size⟩⟩
            have HFin := Lib.hid hfin
            clear hfin htt
            go_wp2
            go_ret2
            exact HFin.out
          | false =>
            have HNO : Hid (parseB text = none) := parseB_text HPS.out (fun h => by rw [beq_eq_false_iff_ne, toList_tl, toList_tl, ← htt, tl_bs] at e2; exact e2 h)
            clear htt
            have hfin : GivesWorld w (parseB text) (.returned (.tuple #[.slice (some ⟨w9.heap.size, 0, none⟩) 0 0, .bool false])) (w9.alloc (.cells #[] 112)) := by
              rw [HNO.out]
              exact ⟨_, [], rfl, hB9.alloc hB9.size _, ⟨_, _, rfl, by simp, by simp [maxLen], .inl ⟨rfl, rfl⟩⟩, Free.nil _, Fresh.nil _ _⟩
            have HFin := Lib.hid hfin
            clear hfin
            go_wp2
            go_ret2
            exact HFin.out
  · skip
    have q0 : (text.toList == []) = false := by
      rw [beq_eq_false_iff_ne, toList_tl]; intro e; have := tl_len text; rw [e] at this; simp at this; omega
    have HLT : Hid (linesT text = lines.take 5) := by unfold Hid linesT; rw [if_neg h0, HLN.out]
    have hl5 : (lines.take 5).length ≤ 5 := by rw [List.length_take]; omega
    have HT0 : Hid (splitS (linesT text) = splitAfter [] ((lines.take 5).drop 0)) := by unfold Hid; rw [HLT.out, splitAfter_nil]; rfl
    clear h0
    go_wp2
    go_loopw [5, 7] (fun nv iv wr => ∃ i : Nat, ∃ ps : List (ByteArray × ByteArray), i ≤ lines.length ∧ i ≤ 5 ∧ ps.length = i ∧ iv = .int .i64 i ∧ Hid (splitS (linesT text) = splitAfter ps ((lines.take 5).drop i)) ∧ Hid (Own wr (w.heap.size + 1) 9 1 StrR (namesOf ps) nv []) ∧ Hid (∀ g ∈ rowOf nv, g = w.heap.size + 1 ∨ w3.heap.size ≤ g) ∧ Hid (Chg [w.heap.size + 1] w3 wr) ∧ Below w.heap.size w wr ∧ Hid (∀ p ∈ ps, p.1.size ≤ 1000000 ∧ p.2.size ≤ 1000000) ∧ Hid (∀ j (hj : j < ps.length), ∃ h2 : j < lines.length, cutS 61 lines[j] = [ps[j].1, ps[j].2])) (fun _ iv _ => 5 - (intOf iv).toNat)
    case atStart => exact ⟨0, [], Nat.zero_le _, by omega, rfl, rfl, HT0, HNN, (fun g hg => by rw [rowOf_some, List.mem_singleton] at hg; exact .inl hg), Chg.refl _ _, hB3, (fun p hp => by cases hp), (fun j hj => by simp at hj)⟩
    case round =>
      clear HNN HT0
      obtain ⟨i, ps, hil, hi5, hpl, rfl, HT, HN, HNR, HC, hB, HSZ, HPP⟩ := hrel
      by_cases hl1 : i < lines.length ∧ i ≤ 4
      · obtain ⟨hl1, hl2⟩ := hl1
        have u1 : decide ((i : Int) < (lines.length : Int)) = true := decide_eq_true (by omega)
        have u2 : decide ((i : Int) ≤ 4) = true := decide_eq_true (by omega)
        have g1 : (0 : Int) ≤ (i : Int) := by omega
        have g2 : (i : Int) < (lines.length : Int) := by omega
        obtain ⟨b3, off3, rfl⟩ := HA3.out.ptr (by omega)
        have HAr : Hid (Arr wr (StrR wr) lines (.slice (some ⟨b3, off3, none⟩) lines.length cap3) F3) := ArrStr.mono HA3.out (HC.out.kept HU3.out (fun b hb => by have := HN3.out b hb; simp; omega))
        obtain ⟨hbl, c0⟩ := ArrStr.at HAr.out (fun b hb => Nat.lt_of_lt_of_le (HU3.out b hb) HC.out.size) (Below.refl _ _) i hl1
        have hlsz : lines[i].size ≤ 1000000 := Nat.le_trans (HLM.out _ (List.getElem_mem hl1)) hs
        have htk : i < (lines.take 5).length := by rw [List.length_take]; omega
        have hge : (lines.take 5)[i] = lines[i] := List.getElem_take
        have hcall : Calls Try.prog 200 #[.string lines[i], .int .u8 61] wr (MadeStrs wr (cutS 61 lines[i])) := spec_l17Cut lines[i] 61 hlsz wr
        have hpm := cutS_mem 61 lines[i]
        by_cases h2 : (cutS 61 lines[i]).length = 2
        · obtain ⟨a, b, hab⟩ := two_of h2
          have HT2 : Hid (splitS (linesT text) = splitAfter (ps ++ [(a, b)]) ((lines.take 5).drop (i + 1))) := by
            unfold Hid
            rw [HT.out]
            exact splitAfter_good htk (by rw [hge]; exact hab)
          rw [hab] at hcall hpm
          have hsa : a.size ≤ 1000000 := Nat.le_trans (hpm a (by simp)) hlsz
          have hsb : b.size ≤ 1000000 := Nat.le_trans (hpm b (by simp)) hlsz
          have HSZ2 : Hid (∀ p ∈ ps ++ [(a, b)], p.1.size ≤ 1000000 ∧ p.2.size ≤ 1000000) := fun p hp => by
            rcases List.mem_append.1 hp with h | h
            · exact HSZ.out p h
            · rw [List.mem_singleton] at h; subst h; exact ⟨hsa, hsb⟩
          have HPP2 : Hid (∀ j (hj : j < (ps ++ [(a, b)]).length), ∃ h2 : j < lines.length, cutS 61 lines[j] = [(ps ++ [(a, b)])[j].1, (ps ++ [(a, b)])[j].2]) := fun j hj => by
            rw [List.length_append, List.length_singleton] at hj
            rcases Nat.lt_or_ge j ps.length with h | h
            · obtain ⟨e1, e2⟩ := HPP.out j h
              exact ⟨e1, by rw [List.getElem_append_left h]; exact e2⟩
            · obtain rfl : j = i := by omega
              refine ⟨hl1, ?_⟩
              rw [List.getElem_append_right h]
              simp only [hpl, Nat.sub_self, List.getElem_cons_zero]
              exact hab
          have hns := namesOf_snoc ps (a, b)
          have HNS := Lib.hid hns
          have hnl := namesOf_len ps
          have HCALL := Lib.hid hcall
          clear hcall hpm h2 hab hns HSZ HPP HT htk hge
          go_wp2_with fail
          refine HCALL.out.mono ?_
          rintro e w4 ⟨v4, F4, rfl, hb4, ha4, -, hfs4⟩
          obtain ⟨A4, cap4, rfl, hc7, hc8⟩ := ha4.form
          obtain ⟨b4, off4, rfl⟩ := ha4.ptr (by simp)
          obtain ⟨hb4l, p0⟩ := ArrStr.at ha4 hfs4.under (Below.refl _ _) 0 (by simp)
          have p0 : w4.cell? ⟨b4, off4, none⟩ = some (.string a) := p0
          have hB4 := hB.trans (hb4.mono hB.size)
          have HO1 : Hid (Own w4 (w.heap.size + 1) 9 1 StrR (namesOf ps) u5 []) := HN.out.below (fun x cs G hk h => StrR_mono _ _ x cs G hk h) hb4
          have hwz : w3.heap.size ≤ w4.heap.size := Nat.le_trans HC.out.size hb4.size
          have hC4 := Lib.hid (HC.out.step hb4)
          clear HCALL c0 hbl ha4 hfs4
          go_wp2_with (at_builtin; refine Halt.mk ?_)
          refine Halt.of (wpList_push1 (P := Try.prog) rfl _ _ 192 rfl j0 _ 16 Try.underlying192 HJ.out HJ0.out HJ1.out HJ2.out rfl Nat.zero_lt_one StrR_len StrR_mono (by rfl) HO1.out a 9 [.string a] [] _ (by rfl) (by simp) (by simp [Value.oneCell']) ⟨rfl, rfl⟩ (Under.nil _) (fun _ _ h => by cases h) (by unfold maxLen; omega) (by omega) (by omega) ?_)
          intro g cp w5 hown5 hgr5 hat5
          have hrow := HO1.out.row
          have hb45 : Below w4.heap.size w4 (w4.alloc (.cells #[.string a] 9)) := (Below.refl _ _).alloc (Nat.le_refl _) _
          have hC5 : Hid (Chg [w.heap.size + 1] w3 w5) := by
            have h1 := hC4.out.step hb45
            refine ⟨hgr5.os.trans h1.os, hgr5.tape.trans h1.tape, hgr5.output.trans h1.output, Nat.le_trans h1.size hgr5.size, fun x hx hn => (hgr5.block x (Nat.lt_of_lt_of_le hx h1.size) (fun e => ?_)).trans (h1.block x hx hn)⟩
            rcases HNR.out x (mem_rowOf.2 e.symm) with h | h
            · exact hn (by simp [h])
            · omega
          have hB5 : Below w.heap.size w w5 := (hB4.alloc hB4.size _).grown hgr5 (by have := hB4.size; simp; omega) (fun g hg => by have := (hrow g (mem_rowOf.2 hg)).1; omega)
          have HN5 : Hid (∀ g' ∈ rowOf (.slice (some ⟨g, 0, none⟩) ((namesOf ps).length + 1) cp), g' = w.heap.size + 1 ∨ w3.heap.size ≤ g') := fun g' hg' => by
            rw [rowOf_some, List.mem_singleton] at hg'
            subst hg'
            rcases hat5 with h | h
            · exact HNR.out _ (mem_rowOf.2 h)
            · right; omega
          have HO5 := Lib.hid hown5
          clear hown5 hgr5 hat5 hrow hb45 p0 hb4l hC4 HO1 hb4
          go_wp2
          go_roundw
          case rel => exact ⟨i + 1, ps ++ [(a, b)], by omega, by omega, by simp [hpl], by go_num, HT2, (by rw [HNS.out]; have h := HO5.out; rw [hnl, hpl] at h; exact h), (by have h := HN5.out; rw [hnl, hpl] at h; exact h), hC5, hB5, HSZ2, HPP2⟩
          case measure => (simp [intOf] <;> omega)
        · have HBAD : Hid (parseB text = none) := by
            refine parseB_bad ?_
            unfold parseS
            rw [HT.out, splitAfter_bad htk (by rw [hge]; exact h2)]
          have hne2 : (((cutS 61 lines[i]).length : Int) != 2) = true := by rw [bne_iff_ne]; omega
          have HCALL := Lib.hid hcall
          obtain ⟨parts, hparts⟩ : ∃ l, cutS 61 lines[i] = l := ⟨_, rfl⟩
          rw [hparts] at HCALL hne2
          clear hcall hpm h2 hparts htk hge
          go_wp2_with fail
          refine HCALL.out.mono ?_
          rintro e w4 ⟨v4, F4, rfl, hb4, ha4, -, hfs4⟩
          obtain ⟨A4, cap4, rfl, hc7, hc8⟩ := ha4.form
          have hB4 := hB.trans (hb4.mono hB.size)
          clear ha4 hfs4 HCALL c0 hbl
          have hfin : GivesWorld w (parseB text) (.returned (.tuple #[.slice (some ⟨w4.heap.size, 0, none⟩) 0 0, .bool false])) (w4.alloc (.cells #[] 112)) := by
            rw [HBAD.out]
            exact ⟨_, [], rfl, hB4.alloc hB4.size _, ⟨_, _, rfl, by simp, by simp [maxLen], .inl ⟨rfl, rfl⟩⟩, Free.nil _, Fresh.nil _ _⟩
          have HFin := Lib.hid hfin
          clear hfin
          go_wp2
          go_ret2
          exact HFin.out
      · by_cases hll : i < lines.length
        · have u1 : decide ((i : Int) < (lines.length : Int)) = true := decide_eq_true (by omega)
          have u2 : decide ((i : Int) ≤ 4) = false := decide_eq_false (by omega)
          have hdone : (lines.take 5).length ≤ i := by omega
          have HPS0 : Hid (parseS text = some (buildS ps)) := by
            have h := HT.out
            rw [splitAfter_end (by omega)] at h
            unfold Hid parseS
            rw [h]
          obtain ⟨nA, ncap, hnv, hnc1, hnc2⟩ := HN.out.form
          subst hnv
          have hna := HN.out.arr
          have HNROW := Lib.hid HN.out.row
          have hfn : ∀ b ∈ (if namesOf ps = [] then [] else rowOf (.slice nA (namesOf ps).length ncap) ++ []), w.heap.size + 1 ≤ b ∧ b < wr.heap.size := fun b hb => by
            split at hb
            · cases hb
            · rw [List.append_nil] at hb
              exact HNROW.out b hb
          generalize (if namesOf ps = [] then [] else rowOf (.slice nA (namesOf ps).length ncap) ++ []) = Fn at hna hfn
          have HNA := Lib.hid hna
          have HFN := Lib.hid hfn
          clear hna hfn HNROW HN
          have HLA : Hid (Arr wr (StrR wr) lines (.slice A3 lines.length cap3) F3) := ArrStr.mono HA3.out (HC.out.kept HU3.out (fun b hb => by have := HN3.out b hb; simp; omega))
          have HLU : Hid (∀ b ∈ F3, w.heap.size + 1 ≤ b ∧ b < wr.heap.size) := fun b hb => ⟨by have := HN3.out b hb; omega, Nat.lt_of_lt_of_le (HU3.out b hb) HC.out.size⟩
          have HO6 : Hid (Own wr w.heap.size 112 2 DtR (dtsTo ps 0) (.slice (some ⟨w.heap.size, 0, none⟩) 0 0) []) := Own.mono (w := w3) (fun x cs G hk h => DtR_mono' _ _ x cs G hk h) HO3.out (HC.out.kept (fun b hb => by rw [rowOf_some, List.append_nil, List.mem_singleton] at hb; omega) (fun b hb => by rw [rowOf_some, List.append_nil, List.mem_singleton] at hb; simp; omega)) HC.out.size
          have hnl := namesOf_len ps
          go_wp2
          obtain ⟨w6, hw6⟩ : ∃ w6, w6 = wr := ⟨_, rfl⟩
          rw [← hw6] at HNA HFN HLA HLU HO6 hB ⊢
          have hw63 : w3.heap.size ≤ w6.heap.size := by rw [hw6]; exact HC.out.size
          clear hw6 HC HA3 HU3 HO3 hl1
          obtain ⟨names, hnm⟩ : ∃ l, namesOf ps = l := ⟨_, rfl⟩
          rw [hnm] at HNA hnl ⊢
          have HNM := Lib.hid hnm
          have HNL := Lib.hid hnl
          have HPL := Lib.hid hpl
          have hps5 : ps.length ≤ 5 := by omega
          clear hnm hnl hpl
          go_loopw [4, 9] (fun ov iv wr => ∃ i : Nat, ∃ Fo : List Nat, i ≤ ps.length ∧ iv = .int .i64 i ∧ Hid (Own wr w.heap.size 112 2 DtR (dtsTo ps i) ov Fo) ∧ Hid (Free wr Fo) ∧ Hid (∀ b ∈ Fo, w6.heap.size ≤ b) ∧ Hid (∀ g ∈ rowOf ov, g = w.heap.size ∨ w6.heap.size ≤ g) ∧ Hid (Chg [w.heap.size] w6 wr) ∧ Below w.heap.size w wr ∧ w6.heap.size ≤ wr.heap.size) (fun _ iv _ => ps.length - (intOf iv).toNat)
          case atStart => exact ⟨0, [], Nat.zero_le _, rfl, HO6, Free.nil _, (fun b hb => by cases hb), (fun g hg => by rw [rowOf_some, List.mem_singleton] at hg; exact .inl hg), Chg.refl _ _, hB, Nat.le_refl _⟩
          case round =>
            clear hB HO6
            obtain ⟨i, Fo, hi, rfl, HO, HFr, HFh, HR, HC, hB, hw6r⟩ := hrel
            by_cases hil : i < ps.length
            · have hnl := HNL.out
              have u3 : decide ((i : Int) < (names.length : Int)) = true := decide_eq_true (by omega)
              have g1 : (0 : Int) ≤ (i : Int) := by omega
              have g2 : (i : Int) < (names.length : Int) := by omega
              clear hnl
              obtain ⟨hil2, hcut⟩ := HPP.out i hil
              have g3 : (i : Int) < (lines.length : Int) := by omega
              have HLr : Hid (Arr wr (StrR wr) lines (.slice A3 lines.length cap3) F3) := ArrStr.mono HLA.out (HC.out.kept (fun b hb => (HLU.out b hb).2) (fun b hb => by have := (HLU.out b hb).1; simp; omega))
              have HNr : Hid (Arr wr (StrR wr) names (.slice nA names.length ncap) Fn) := ArrStr.mono HNA.out (HC.out.kept (fun b hb => (HFN.out b hb).2) (fun b hb => by have := (HFN.out b hb).1; simp; omega))
              have hFnr : Hid (Under wr.heap.size Fn) := fun b hb => Nat.lt_of_lt_of_le (HFN.out b hb).2 hw6r
              obtain ⟨bL, offL, rfl⟩ := HLr.out.ptr (by omega)
              obtain ⟨hbL, cL⟩ := ArrStr.at HLr.out (fun b hb => Nat.lt_of_lt_of_le (HLU.out b hb).2 hw6r) (Below.refl _ _) i hil2
              have hlsz : lines[i].size ≤ 1000000 := Nat.le_trans (HLM.out _ (List.getElem_mem hil2)) hs
              have hcall : Calls Try.prog 200 #[.string lines[i], .int .u8 61] wr (MadeStrs wr (cutS 61 lines[i])) := spec_l17Cut lines[i] 61 hlsz wr
              rw [hcut] at hcall
              have HCALL := Lib.hid hcall
              clear hcall hcut
              go_wp2_with fail
              refine HCALL.out.mono ?_
              rintro e w7 ⟨v7, F7, rfl, hb7, ha7, -, hfs7⟩
              obtain ⟨A7, cap7, rfl, hc7, hc8⟩ := ha7.form
              obtain ⟨b7, off7, rfl⟩ := ha7.ptr (by simp)
              obtain ⟨hb7l, p71⟩ := ArrStr.at ha7 hfs7.under (Below.refl _ _) 1 (by simp)
              have p71 : w7.cell? ⟨b7, off7 + 1, none⟩ = some (.string ps[i].2) := p71
              have hB7 := hB.trans (hb7.mono hB.size)
              have hpsz := (HSZ.out ps[i] (List.getElem_mem hil))
              have hcall2 : Calls Try.prog 200 #[.string ps[i].2, .int .u8 124] w7 (MadeStrs w7 (cutS 124 ps[i].2)) := spec_l17Cut ps[i].2 124 hpsz.2 w7
              have HCALL2 := Lib.hid hcall2
              clear hcall2 HCALL cL hbL ha7 hfs7
              go_wp2_with fail
              refine HCALL2.out.mono ?_
              rintro e w8 ⟨v8, F8, rfl, hb8, ha8, -, hfs8⟩
              obtain ⟨A8, cap8, rfl, hc9, hc10⟩ := ha8.form
              have hB8 := hB7.trans (hb8.mono hB7.size)
              have hr8 : Below wr.heap.size wr w8 := hb7.trans (hb8.mono hb7.size)
              have hcm := cutS_mem 124 ps[i].2
              obtain ⟨cl, hcl⟩ : ∃ l, cutS 124 ps[i].2 = l := ⟨_, rfl⟩
              rw [hcl] at ha8 hcm
              have HCL := Lib.hid hcl
              have HA8 := Lib.hid ha8
              have HU8 := Lib.hid hfs8.under
              have HCM := Lib.hid hcm
              clear hcm
              rw [hcl] at hc9 ⊢
              clear hcl ha8 hfs8 p71 hb7l HCALL2
              have HN8 : Hid (Arr w8 (StrR w8) names (.slice nA names.length ncap) Fn) := ArrStr.below HNr.out hr8 hFnr.out
              have hFn8 : Hid (Under w8.heap.size Fn) := hFnr.out.mono hr8.size
              obtain ⟨bN, offN, hnA⟩ := HN8.out.ptr (by have := HNL.out; omega)
              subst hnA
              obtain ⟨hbN, cN⟩ := ArrStr.at HN8.out hFn8.out (Below.refl _ _) i (by have := HNL.out; omega)
              have hnmi : names[i]'(by have := HNL.out; omega) = ps[i].1 := by have h := HNM.out; subst h; exact namesOf_get ps i hil
              rw [hnmi] at cN
              have hw9 : Below w8.heap.size w8 (w8.alloc (.cells #[.string ps[i].1, .slice none 0 0] 112)) := (Below.refl _ _).alloc (Nat.le_refl _) _
              have HO8 : Hid (Own w8 w.heap.size 112 2 DtR (dtsTo ps i) u4 Fo) := HO.out.below (fun x cs G hk h => DtR_mono' _ _ x cs G hk h) hr8
              have HFr8 : Hid (Free w8 Fo) := HFr.out.kept (.of_below hr8 HO.out.under)
              have HC8 : Hid (Chg [w.heap.size] w6 w8) := HC.out.step hr8
              have hw68 : w6.heap.size ≤ w8.heap.size := Nat.le_trans hw6r hr8.size
              have HO9 : Hid (Own (w8.alloc (.cells #[.string ps[i].1, .slice none 0 0] 112)) w.heap.size 112 2 DtR (dtsTo ps i) u4 Fo) := HO8.out.below (fun x cs G hk h => DtR_mono' _ _ x cs G hk h) hw9
              have HFr9 : Hid (Free (w8.alloc (.cells #[.string ps[i].1, .slice none 0 0] 112)) Fo) := HFr8.out.kept (.of_below hw9 HO8.out.under)
              have HC9 : Hid (Chg [w.heap.size] w6 (w8.alloc (.cells #[.string ps[i].1, .slice none 0 0] 112))) := HC8.out.step hw9
              have KD9 : Hid (Blk (w8.alloc (.cells #[.string ps[i].1, .slice none 0 0] 112)) w8.heap.size 112 #[.string ps[i].1, .slice none 0 0]) := Blk.new _ _ _
              have HN9 : Hid (Arr (w8.alloc (.cells #[.string ps[i].1, .slice none 0 0] 112)) (StrR _) names (.slice (some ⟨bN, offN, none⟩) names.length ncap) Fn) := ArrStr.below HN8.out hw9 hFn8.out
              have HA9 : Hid (Arr (w8.alloc (.cells #[.string ps[i].1, .slice none 0 0] 112)) (StrR _) cl (.slice A8 cl.length cap8) F8) := ArrStr.below HA8.out hw9 HU8.out
              have hB9 := hB8.trans (hw9.mono hB8.size)
              have hD : w.heap.size < w8.heap.size := Nat.lt_of_lt_of_le (by omega) hw68
              have hw9s : (w8.alloc (.cells #[.string ps[i].1, .slice none 0 0] 112)).heap.size = w8.heap.size + 1 := World.size_alloc _ _
              go_wp2
              obtain ⟨w9, hw9e⟩ : ∃ w9, w9 = w8.alloc (.cells #[.string ps[i].1, .slice none 0 0] 112) := ⟨_, rfl⟩
              rw [← hw9e] at HO9 HFr9 HC9 KD9 HN9 HA9 hB9 hw9s ⊢
              have HB8 : Hid (∀ b ∈ rowOf u4 ++ Fo, b < w8.heap.size) := fun b hb => by
                rcases List.mem_append.1 hb with h | h
                · exact (HO8.out.row b h).2
                · exact HO8.out.under b h
              clear hw9 hw9e HO8 HFr8 HC8 HN8 HA8 HLr HNr HO HFr HC hB hB7 hB8 hb7 hb8 hr8 cN hbN
              have hpz := hpsz.1
              have hpz2 := hpsz.2
              clear hpsz
              go_loopw [12] (fun kv' wr => ∃ k : Nat, ∃ kv : Value, ∃ Fk : List Nat, k ≤ cl.length ∧ k ≤ 5 ∧ kv' = .int .i64 k ∧ Hid (Blk wr w8.heap.size 112 #[.string ps[i].1, kv]) ∧ Hid (Own wr (w8.heap.size + 1) 164 3 KtR (ktsTo names cl k) kv Fk) ∧ Hid (Free wr Fk) ∧ Hid (∀ b ∈ Fk, w8.heap.size + 1 ≤ b) ∧ Hid (Chg [w8.heap.size] w9 wr) ∧ Below w.heap.size w wr ∧ w9.heap.size ≤ wr.heap.size) (fun kv' _ => 5 - (intOf kv').toNat)
              case atStart => exact ⟨0, _, [], Nat.zero_le _, by omega, rfl, KD9, (show Own _ _ _ _ _ (ktsTo names cl 0) _ _ from Own.nil _ _ _ _ _), Free.nil _, (fun b hb => by cases hb), Chg.refl _ _, hB9, Nat.le_refl _⟩
              case round =>
                clear hB9 KD9
                obtain ⟨k, kv, Fk, hkl, hk5, rfl, KD, HOk, HFk, HFkh, HCk, hB, hw9r⟩ := hrel
                obtain ⟨kA, kcap, hkv, hkc1, hkc2⟩ := HOk.out.form
                subst hkv
                have z0 : wr.cell? ⟨w8.heap.size, 0, none⟩ = some (.string ps[i].1) := (KD.out.cell 0).trans (by simp)
                have z1 : wr.cell? ⟨w8.heap.size, 1, none⟩ = some (.slice kA (ktsTo names cl k).length kcap) := (KD.out.cell 1).trans (by simp)
                have zf1 := KD.out.frozen 1
                have hkz := KD.out.lt
                by_cases hlt : k < cl.length ∧ k ≤ 4
                · obtain ⟨hk1, hk2⟩ := hlt
                  have u5 : decide ((k : Int) < (cl.length : Int)) = true := decide_eq_true (by omega)
                  have u6 : decide ((k : Int) ≤ 4) = true := decide_eq_true (by omega)
                  have g5 : (0 : Int) ≤ (k : Int) := by omega
                  have g6 : (k : Int) < (cl.length : Int) := by omega
                  obtain ⟨b5, off5, rfl⟩ := HA9.out.ptr (by omega)
                  have hu9 : Hid (∀ b ∈ F8, b < w8.heap.size) := HU8.out
                  have HAr : Hid (Arr wr (StrR wr) cl (.slice (some ⟨b5, off5, none⟩) cl.length cap8) F8) := ArrStr.mono HA9.out (HCk.out.kept (fun b hb => by have := hu9.out b hb; omega) (fun b hb => by have := hu9.out b hb; simp; omega))
                  have HNr : Hid (Arr wr (StrR wr) names (.slice (some ⟨bN, offN, none⟩) names.length ncap) Fn) := ArrStr.mono HN9.out (HCk.out.kept (fun b hb => by have := hFn8.out b hb; omega) (fun b hb => by have := hFn8.out b hb; simp; omega))
                  obtain ⟨hb5l, c0⟩ := ArrStr.at HAr.out (fun b hb => by have := hu9.out b hb; omega) (Below.refl _ _) k hk1
                  have hb5w : b5 < w8.heap.size := by
                    obtain ⟨b', off', cs', G', e', hb', -⟩ := HAr.out.get (StrR_len wr) hk1
                    cases e'
                    exact hu9.out _ hb'
                  have hb5n : w8.heap.size ≠ b5 := by omega
                  have hm5 : cl[k].size ≤ 1000000 := Nat.le_trans (HCM.out _ (List.getElem_mem hk1)) hpz2
                  have HF2 := Lib.hid (ktsTo_succ names cl k hk1)
                  have hkl4 : (ktsTo names cl k).length ≤ 4 := Nat.le_trans (ktsTo_len names cl k) hk2
                  have hmx : (ktsTo names cl k).length + 1 ≤ maxLen := by unfold maxLen; omega
                  have hby : ((ktsTo names cl k).length + 1) * 48 ≤ 140737488355328 := by omega
                  have hwr8 : w8.heap.size + 1 ≤ wr.heap.size := by omega
                  have hb5w1 : b5 < w8.heap.size + 1 := by omega
                  have hHD8 : w.heap.size ≤ w8.heap.size := by omega
                  have HCALL := Lib.hid (spec_l1ParseCtor names cl[k] wr.drew _ Fn (ArrStr.mono (w := wr) HNr.out (fun _ _ => rfl)) (fun b hb => by have := hFn8.out b hb; show b < wr.heap.size; omega) hm5)
                  go_wp2_with fail
                  generalize hpk : pkt names cl[k] = c at HCALL HF2
                  clear hpk
                  refine wp_region_B (S := fun w' => w'.cell? ⟨b5, off5 + k, none⟩ = some (.string cl[k])) (T := fun w' => w'.cell? ⟨w8.heap.size, 1, none⟩ = some (.slice kA (ktsTo names cl k).length kcap)) (d := 9) (by kernel_rfl) ?_
                  have hS1 : wr.drew.cell? ⟨b5, off5 + k, none⟩ = some (.string cl[k]) := c0
                  have hT1 : wr.drew.cell? ⟨w8.heap.size, 1, none⟩ = some (.slice kA (ktsTo names cl k).length kcap) := z1
                  refine wpAnyB_take (i := 0) (v := ?_) rfl (by decide) (by kernel_rfl) (by kernel_rfl) (by kernel_rfl) (fun _ _ _ h => h) (Or.inl ⟨by rfl, ?hy0⟩) hS1 (fun _ => hT1) ?_
                  case hy0 => (intro W hSw; (try dsimp only at hSw); go_simp; try with_reducible rfl)

                  (try simp only [Act.put, List.setIfInBounds_toArray, List.set_cons_zero, List.set_cons_succ])
                  refine wpAnyB_takeB (i := 1) (v := ?_) rfl (by decide) rfl (by kernel_rfl) (by kernel_rfl) (by kernel_rfl) (by kernel_rfl) (fun _ _ _ h => h) (Or.inl ⟨by rfl, ?hy1⟩) (by rfl) hS1 hT1 ?_
                  case hy1 => (intro W hSw; (try dsimp only at hSw); go_simp; try with_reducible rfl)

                  (try simp only [Act.put, List.setIfInBounds_toArray, List.set_cons_zero, List.set_cons_succ])
                  refine wpAnyB_take (i := 2) (v := ?_) rfl (by decide) (by kernel_rfl) (by kernel_rfl) (by kernel_rfl) (fun _ _ _ h => h) (Or.inl ⟨by rfl, ?hy2⟩) hS1 (fun _ => hT1) ?_
                  case hy2 => (intro W hSw; (try dsimp only at hSw); go_simp; try with_reducible rfl)

                  (try simp only [Act.put, List.setIfInBounds_toArray, List.set_cons_zero, List.set_cons_succ])
                  refine wpAnyB_take (i := 3) (v := ?_) rfl (by decide) (by kernel_rfl) (by kernel_rfl) (by kernel_rfl) (fun _ _ _ h => h) (Or.inl ⟨by rfl, ?hy3⟩) hS1 (fun _ => hT1) ?_
                  case hy3 => (intro W hSw; (try dsimp only at hSw); go_simp; try with_reducible rfl)

                  (try simp only [Act.put, List.setIfInBounds_toArray, List.set_cons_zero, List.set_cons_succ])
                  refine wpAnyB_take (i := 4) (v := ?_) rfl (by decide) (by kernel_rfl) (by kernel_rfl) (by kernel_rfl) (fun _ _ _ h => h) (Or.inl ⟨by rfl, ?hy4⟩) hS1 (fun _ => hT1) ?_
                  case hy4 => (intro W hSw; (try dsimp only at hSw); go_simp; try with_reducible rfl)

                  (try simp only [Act.put, List.setIfInBounds_toArray, List.set_cons_zero, List.set_cons_succ])
                  refine wpAnyB_take (i := 5) (v := ?_) rfl (by decide) (by kernel_rfl) (by kernel_rfl) (by kernel_rfl) (fun _ _ _ h => h) (Or.inl ⟨by rfl, ?hy5⟩) hS1 (fun _ => hT1) ?_
                  case hy5 => (intro W hSw; (try dsimp only at hSw); go_simp; try with_reducible rfl)

                  (try simp only [Act.put, List.setIfInBounds_toArray, List.set_cons_zero, List.set_cons_succ])
                  refine wpAnyB_take (i := 6) (v := ?_) rfl (by decide) (by kernel_rfl) (by kernel_rfl) (by kernel_rfl) (fun _ _ _ h => h) (Or.inl ⟨by rfl, ?hy6⟩) hS1 (fun _ => hT1) ?_
                  case hy6 => (intro W hSw; (try dsimp only at hSw); go_simp; try with_reducible rfl)

                  (try simp only [Act.put, List.setIfInBounds_toArray, List.set_cons_zero, List.set_cons_succ])
                  refine wpAnyB_ready (rs := [7]) (by kernel_rfl) (by simp) ?_
                  refine AllReadyB.cons rfl (fun K hK => ?_) AllReadyB.nil
                  go_simp
                  go_at_call 201
                  with_reducible refine HCALL.out.mono ?_
                  rintro e wA ⟨cs, G, rfl, hBA, hkA', hfrA, hfsA⟩
                  obtain ⟨cA, ccap, rfl⟩ := KtR_form hkA'
                  have hBu := below_undrew hBA
                  have hS6 : wA.cell? ⟨b5, off5 + k, none⟩ = some (.string cl[k]) := (hBu.cell hb5l).trans c0
                  have z61 : wA.cell? ⟨w8.heap.size, 1, none⟩ = some (.slice kA (ktsTo names cl k).length kcap) := (hBu.cell hkz).trans z1
                  have zf61 : wA.frozen? ⟨w8.heap.size, 1, none⟩ = false := (hBu.frozen hkz).trans zf1
                  have hkz6 : w8.heap.size < wA.heap.size := Nat.lt_of_lt_of_le hkz hBu.size
                  have HOA : Hid (Own wA (w8.heap.size + 1) 164 3 KtR (ktsTo names cl k) (.slice kA (ktsTo names cl k).length kcap) Fk) := HOk.out.below (fun x cs G hk h => KtR_mono' _ _ x cs G hk h) hBu
                  have HKA := Lib.hid hkA'
                  have HfrA := Lib.hid hfrA
                  have HfsA : Hid (∀ b ∈ G, wr.heap.size ≤ b ∧ b < wA.heap.size) := hfsA
                  clear hkA' hfrA hfsA
                  dsimp only
                  refine hK.out _ _ hS6 (fun _ => z61) ?_
                  clear hK K
                  (try simp only [Act.put, List.setIfInBounds_toArray, List.set_cons_zero, List.set_cons_succ])
                  refine wpAnyB_ready (rs := [8]) (by kernel_rfl) (by simp) ?_
                  refine AllReadyB.cons rfl (fun K hK => ?_) AllReadyB.nil
                  go_simp
                  refine hK.out _ _ ((World.cell?_alloc_lt _ _ _ (Nat.lt_of_lt_of_le hb5l hBu.size)).trans hS6) (fun _ => (World.cell?_alloc_lt _ _ _ hkz6).trans z61) ?_
                  clear hK K
                  (try simp only [Act.put, List.setIfInBounds_toArray, List.set_cons_zero, List.set_cons_succ])
                  refine wpAnyB_ready (rs := [9]) (by kernel_rfl) (by simp) ?_
                  refine AllReadyB.cons rfl (fun K hK => ?_) AllReadyB.nil
                  refine step_push1 (P := Try.prog) rfl _ _ 110 rfl i0 _ 48 Try.underlying110 HI.out HZ0.out HZ1.out HZ2.out rfl (by decide) KtR_len' KtR_mono' (by rfl) HOA.out c 164 [.string c.name, .slice cA c.args.length ccap, .int .i64 c.idx] G _ (by rfl) rfl (by simp [Value.oneCell']) HKA.out (fun b hb => (HfsA.out b hb).2) (fun g hg hG => Nat.lt_irrefl _ (Nat.lt_of_lt_of_le (HOk.out.row g hg).2 (HfsA.out g hG).1)) hmx hby (Nat.le_trans hwr8 hBu.size) ?_
                  intro g cp w7 hown7 hgr7 hat7
                  have s7 : w7.cell? ⟨b5, off5 + k, none⟩ = some (.string cl[k]) := (World.cell?_of_block (a := ⟨b5, off5 + k, none⟩) (grow_old HOk.out hBu hgr7 hb5w1 hb5l)).trans c0
                  have z71 : w7.cell? ⟨w8.heap.size, 1, none⟩ = some (.slice kA (ktsTo names cl k).length kcap) := (World.cell?_of_block (a := ⟨w8.heap.size, 1, none⟩) (grow_old HOk.out hBu hgr7 (Nat.lt_succ_self _) hkz)).trans z1
                  have zf71 : w7.frozen? ⟨w8.heap.size, 1, none⟩ = false := (World.frozen?_of_block (a := ⟨w8.heap.size, 1, none⟩) (grow_old HOk.out hBu hgr7 (Nat.lt_succ_self _) hkz)).trans zf1
                  refine hK.out _ _ s7 (fun _ => z71) ?_
                  clear hK K
                  (try simp only [Act.put, List.setIfInBounds_toArray, List.set_cons_zero, List.set_cons_succ])
                  refine wpAnyB_take (i := 10) (v := ?_) rfl (by decide) (by kernel_rfl) (by kernel_rfl) (by kernel_rfl) (fun _ _ _ h => h) (Or.inl ⟨by rfl, ?hy10⟩) s7 (fun _ => z71) ?_
                  case hy10 => (intro W hSw; (try dsimp only at hSw); go_simp; try with_reducible rfl)
                  (try simp only [Act.put, List.setIfInBounds_toArray, List.set_cons_zero, List.set_cons_succ])
                  refine wpAnyB_ready (rs := [11]) (by kernel_rfl) (by simp) ?_
                  refine AllReadyB.cons rfl (fun K hK => ?_) AllReadyB.nil
                  go_simp
                  refine hK.out _ _ ((World.cell?_setCell_far _ _ _ _ hb5n).trans s7) (fun h => by cases h) ?_
                  clear hK K
                  (try simp only [Act.put, List.setIfInBounds_toArray, List.set_cons_zero, List.set_cons_succ])
                  refine wpAnyB_end (by kernel_rfl) ?_
                  all_goals (
                    obtain ⟨r1, r2, r3, r4, r5, r6, r7⟩ := grow_round KtR_mono' hw9s KD.out HOk.out HFk.out HFkh.out HCk.out hB hHD8 (Nat.le_refl _) hBu HfrA.out HfsA.out hown7 hgr7
                    have R1 := Lib.hid r1
                    have R2 := Lib.hid r2
                    have R3 := Lib.hid r3
                    have R4 := Lib.hid r4
                    have R5 := Lib.hid r5
                    have R6 := Lib.hid r6
                    clear r1 r2 r3 r4 r5 r6 hown7 hgr7 hat7 hS1 hT1 hS6 s7 z61 zf61 z0 z1 zf1 z71 zf71 HOA HKA HfrA HfsA hBu hBA hkz6
                    go_wp2
                    go_roundw
                    case rel => exact ⟨k + 1, _, Fk ++ G, hk1, Nat.succ_le_succ hk2, by go_num, R1, by rw [HF2.out]; exact R2.out, R3, R4, R5, R6.out, r7⟩
                    case measure => (simp [intOf] <;> omega))
                · have hpd : Hid (pdt (namesOf ps) ps[i] = ⟨ps[i].1, ktsTo names cl k⟩) := by
                    unfold Hid pdt
                    rw [HNM.out, HCL.out, ktsTo_all names cl hk5 (by omega)]
                  have HF2 := Lib.hid (dtsTo_succ ps i hil)
                  have hdl : (dtsTo ps i).length ≤ 5 := Nat.le_trans (dtsTo_len ps i) (by omega)
                  have hOr : Hid (Own wr w.heap.size 112 2 DtR (dtsTo ps i) u4 Fo) := Own.mono (w := w9) (fun x cs G hk h => DtR_mono' _ _ x cs G hk h) HO9.out (HCk.out.kept (fun b hb => by have := HB8.out b hb; omega) (fun b hb => by have := HB8.out b hb; simp; omega)) HCk.out.size
                  have hFrr : Hid (Free wr Fo) := HFr9.out.kept (HCk.out.kept (fun b hb => by have := HB8.out b (List.mem_append.2 (.inr hb)); omega) (fun b hb => by have := HB8.out b (List.mem_append.2 (.inr hb)); simp; omega))
                  have hCr : Hid (Chg [w.heap.size] w6 wr) := HC9.out.trans_new HCk.out hw68
                  have harr := HOk.out.arr
                  have hfree := HOk.out.free HFk.out
                  have hrk := HOk.out.row
                  have hff : ∀ b ∈ (if ktsTo names cl k = [] then [] else rowOf (.slice kA (ktsTo names cl k).length kcap) ++ Fk), w8.heap.size + 1 ≤ b ∧ b < wr.heap.size := fun b hb => by
                    split at hb
                    · cases hb
                    · rcases List.mem_append.1 hb with h | h
                      · exact hrk b h
                      · exact ⟨HFkh.out b h, HOk.out.under b h⟩
                  generalize (if ktsTo names cl k = [] then [] else rowOf (.slice kA (ktsTo names cl k).length kcap) ++ Fk) = FF at harr hfree hff
                  have HFF := Lib.hid hff
                  have HFREE := Lib.hid hfree
                  have HDX : Hid (DtR wr ⟨ps[i].1, ktsTo names cl k⟩ [.string ps[i].1, .slice kA (ktsTo names cl k).length kcap] FF) := ⟨_, rfl, harr, (show ps[i].1.size ≤ 9223372036854775807 by omega)⟩
                  clear harr hfree hrk hff HOk HFk HFkh HO9 HFr9 HC9 HN9 HA9 HU8
                  have hbs : w.heap.size ≤ wr.heap.size := hB.size
                  by_cases hk5' : k < cl.length
                  · have u5 : decide ((k : Int) < (cl.length : Int)) = true := decide_eq_true (by omega)
                    have u6 : decide ((k : Int) ≤ 4) = false := decide_eq_false (by omega)
                    clear hlt
                    go_wp2_with (at_builtin; refine Halt.mk ?_)
                    refine Halt.of (wpList_push1 (P := Try.prog) rfl _ _ 35 rfl m0 _ 40 Try.underlying35 HM.out HM0.out HM1.out HM2.out rfl (by decide) DtR_len' DtR_mono' (by rfl) hOr.out ⟨ps[i].1, ktsTo names cl k⟩ 112 [.string ps[i].1, .slice kA (ktsTo names cl k).length kcap] FF _ (by rfl) (by simp) (by simp [Value.oneCell']) HDX.out (fun b hb => (HFF.out b hb).2) (fun g hg hG => by have h1 := HB8.out g (List.mem_append.2 (.inl hg)); have h2 := (HFF.out g hG).1; omega) (by unfold maxLen; omega) (by omega) hbs ?_)
                    intro g cp w7 hown7 hgr7 hat7
                    obtain ⟨r1, r2, r3, r4, r5, r6⟩ := push_round (n := (dtsTo ps i).length + 1) (cp := cp) hOr.out hFrr.out HFREE.out HB8.out HFF.out HR.out hCr.out hB (Nat.le_refl _) HFh.out hw68 hgr7 hat7
                    have HFr7 := Lib.hid r1
                    have HFh7 := Lib.hid r2
                    have HR7 := Lib.hid r3
                    have HC7 := Lib.hid r4
                    have HB7 := Lib.hid r5
                    clear r1 r2 r3 r4 r5
                    have HO7 := Lib.hid hown7
                    have HEQ : Hid (dtsTo ps (i + 1) = dtsTo ps i ++ [⟨ps[i].1, ktsTo names cl k⟩]) := by unfold Hid; rw [HF2.out, hpd.out]
                    clear hown7 hgr7 hat7
                    go_wp2
                    go_roundw
                    case rel => exact ⟨i + 1, Fo ++ FF, by omega, by go_num, by rw [HEQ.out]; exact HO7.out, HFr7, HFh7, HR7, HC7, HB7.out, r6⟩
                    case measure => (simp [intOf] <;> omega)
                  · have u5 : decide ((k : Int) < (cl.length : Int)) = false := decide_eq_false (by omega)
                    clear hlt
                    go_wp2_with (at_builtin; refine Halt.mk ?_)
                    refine Halt.of (wpList_push1 (P := Try.prog) rfl _ _ 35 rfl m0 _ 40 Try.underlying35 HM.out HM0.out HM1.out HM2.out rfl (by decide) DtR_len' DtR_mono' (by rfl) hOr.out ⟨ps[i].1, ktsTo names cl k⟩ 112 [.string ps[i].1, .slice kA (ktsTo names cl k).length kcap] FF _ (by rfl) (by simp) (by simp [Value.oneCell']) HDX.out (fun b hb => (HFF.out b hb).2) (fun g hg hG => by have h1 := HB8.out g (List.mem_append.2 (.inl hg)); have h2 := (HFF.out g hG).1; omega) (by unfold maxLen; omega) (by omega) hbs ?_)
                    intro g cp w7 hown7 hgr7 hat7
                    obtain ⟨r1, r2, r3, r4, r5, r6⟩ := push_round (n := (dtsTo ps i).length + 1) (cp := cp) hOr.out hFrr.out HFREE.out HB8.out HFF.out HR.out hCr.out hB (Nat.le_refl _) HFh.out hw68 hgr7 hat7
                    have HFr7 := Lib.hid r1
                    have HFh7 := Lib.hid r2
                    have HR7 := Lib.hid r3
                    have HC7 := Lib.hid r4
                    have HB7 := Lib.hid r5
                    clear r1 r2 r3 r4 r5
                    have HO7 := Lib.hid hown7
                    have HEQ : Hid (dtsTo ps (i + 1) = dtsTo ps i ++ [⟨ps[i].1, ktsTo names cl k⟩]) := by unfold Hid; rw [HF2.out, hpd.out]
                    clear hown7 hgr7 hat7
                    go_wp2
                    go_roundw
                    case rel => exact ⟨i + 1, Fo ++ FF, by omega, by go_num, by rw [HEQ.out]; exact HO7.out, HFr7, HFh7, HR7, HC7, HB7.out, r6⟩
                    case measure => (simp [intOf] <;> omega)
            · have HPS : Hid (parseS text = some (dtsTo ps i)) := by unfold Hid; rw [HPS0.out, dtsTo_all ps (by omega)]
              have u3 : decide ((i : Int) < (names.length : Int)) = false := decide_eq_false (by have := HNL.out; omega)
              have HFh2 : Hid (∀ b ∈ Fo, w.heap.size ≤ b) := fun b hb => by have := HFh.out b hb; omega
              clear HFh
              have HFh := HFh2
              have hil3 : ¬ i < names.length := by have := HNL.out; omega
              clear HFh2 hil
              have harr := HO.out.arr
              have hfree := HO.out.free HFr.out
              have hfresh := Own.fresh (w0 := w) HO.out (Nat.le_refl _) HFh.out
              generalize (if (dtsTo ps i) = [] then [] else rowOf (u4) ++ Fo) = FF at harr hfree hfresh
              have HARR := Lib.hid harr
              have HFREE := Lib.hid hfree
              have HFRESH := Lib.hid hfresh
              clear harr hfree hfresh HO HFr HFh
              generalize hxx : (dtsTo ps i) = xx at *
              clear hxx
              go_wp2_with fail
              refine (spec_WorldValid xx wr _ FF HARR.out HFRESH.out.under).mono ?_
              rintro e w8 ⟨rfl, hb8⟩
              have hB8 := hB.trans (hb8.mono hB.size)
              cases e1 : worldOk xx with
              | false =>
                have HNO := Lib.hid (parseB_no HPS.out e1)
                clear e1
                have hfin : GivesWorld w (parseB text) (.returned (.tuple #[.slice (some ⟨w8.heap.size, 0, none⟩) 0 0, .bool false])) (w8.alloc (.cells #[] 112)) := by
                  rw [HNO.out]
                  exact ⟨_, [], rfl, hB8.alloc hB8.size _, ⟨_, _, rfl, by simp, by simp [maxLen], .inl ⟨rfl, rfl⟩⟩, Free.nil _, Fresh.nil _ _⟩
                have HFin := Lib.hid hfin
                clear hfin
                go_wp2
                go_ret2
                exact HFin.out
              | true =>
                have HW := Lib.hid (worldOK e1)
                have HE1 := Lib.hid e1
                clear e1
                have HA8 := Lib.hid (ArrDt.below HARR.out hb8 HFRESH.out.under)
                have hF8 := Lib.hid (HFRESH.out.under.mono hb8.size)
                go_wp2_with fail
                refine (spec_l1Text xx HW.out w8 _ FF HA8.out hF8.out).mono ?_
                rintro e w9 ⟨rfl, hb9⟩
                have hB9 := hB8.trans (hb9.mono hB8.size)
                have hb89 := hb8.trans (hb9.mono hb8.size)
                generalize htt : bs (textT xx) = tt
                cases e2 : (tt.toList == text.toList) with
                | true =>
                  have HYES : Hid (parseB text = some xx) := parseB_yes HPS.out HE1.out (by rw [beq_iff_eq, toList_tl, toList_tl, ← htt, tl_bs] at e2; exact e2)
                  have hfin : GivesWorld w (parseB text) (.returned (.tuple #[u4, .bool true])) w9 := by
                    rw [HYES.out]
                    exact ⟨_, FF, rfl, hB9, ArrDt.below HARR.out hb89 HFRESH.out.under, HFREE.out.kept (.of_below hb89 HFRESH.out.under), fun b hb => ⟨(HFRESH.out b hb).1, Nat.lt_of_lt_of_le (HFRESH.out b hb).2 hb89.size⟩⟩
                  have HFin := Lib.hid hfin
                  clear hfin htt
                  go_wp2
                  go_ret2
                  exact HFin.out
                | false =>
                  have HNO : Hid (parseB text = none) := parseB_text HPS.out (fun h => by rw [beq_eq_false_iff_ne, toList_tl, toList_tl, ← htt, tl_bs] at e2; exact e2 h)
                  clear htt
                  have hfin : GivesWorld w (parseB text) (.returned (.tuple #[.slice (some ⟨w9.heap.size, 0, none⟩) 0 0, .bool false])) (w9.alloc (.cells #[] 112)) := by
                    rw [HNO.out]
                    exact ⟨_, [], rfl, hB9.alloc hB9.size _, ⟨_, _, rfl, by simp, by simp [maxLen], .inl ⟨rfl, rfl⟩⟩, Free.nil _, Fresh.nil _ _⟩
                  have HFin := Lib.hid hfin
                  clear hfin
                  go_wp2
                  go_ret2
                  exact HFin.out
        · have u1 : decide ((i : Int) < (lines.length : Int)) = false := decide_eq_false (by omega)
          have hdone : (lines.take 5).length ≤ i := by rw [List.length_take]; omega
          have HPS0 : Hid (parseS text = some (buildS ps)) := by
            have h := HT.out
            rw [splitAfter_end (by omega)] at h
            unfold Hid parseS
            rw [h]
          obtain ⟨nA, ncap, hnv, hnc1, hnc2⟩ := HN.out.form
          subst hnv
          have hna := HN.out.arr
          have HNROW := Lib.hid HN.out.row
          have hfn : ∀ b ∈ (if namesOf ps = [] then [] else rowOf (.slice nA (namesOf ps).length ncap) ++ []), w.heap.size + 1 ≤ b ∧ b < wr.heap.size := fun b hb => by
            split at hb
            · cases hb
            · rw [List.append_nil] at hb
              exact HNROW.out b hb
          generalize (if namesOf ps = [] then [] else rowOf (.slice nA (namesOf ps).length ncap) ++ []) = Fn at hna hfn
          have HNA := Lib.hid hna
          have HFN := Lib.hid hfn
          clear hna hfn HNROW HN
          have HLA : Hid (Arr wr (StrR wr) lines (.slice A3 lines.length cap3) F3) := ArrStr.mono HA3.out (HC.out.kept HU3.out (fun b hb => by have := HN3.out b hb; simp; omega))
          have HLU : Hid (∀ b ∈ F3, w.heap.size + 1 ≤ b ∧ b < wr.heap.size) := fun b hb => ⟨by have := HN3.out b hb; omega, Nat.lt_of_lt_of_le (HU3.out b hb) HC.out.size⟩
          have HO6 : Hid (Own wr w.heap.size 112 2 DtR (dtsTo ps 0) (.slice (some ⟨w.heap.size, 0, none⟩) 0 0) []) := Own.mono (w := w3) (fun x cs G hk h => DtR_mono' _ _ x cs G hk h) HO3.out (HC.out.kept (fun b hb => by rw [rowOf_some, List.append_nil, List.mem_singleton] at hb; omega) (fun b hb => by rw [rowOf_some, List.append_nil, List.mem_singleton] at hb; simp; omega)) HC.out.size
          have hnl := namesOf_len ps
          go_wp2
          obtain ⟨w6, hw6⟩ : ∃ w6, w6 = wr := ⟨_, rfl⟩
          rw [← hw6] at HNA HFN HLA HLU HO6 hB ⊢
          have hw63 : w3.heap.size ≤ w6.heap.size := by rw [hw6]; exact HC.out.size
          clear hw6 HC HA3 HU3 HO3 hl1
          obtain ⟨names, hnm⟩ : ∃ l, namesOf ps = l := ⟨_, rfl⟩
          rw [hnm] at HNA hnl ⊢
          have HNM := Lib.hid hnm
          have HNL := Lib.hid hnl
          have HPL := Lib.hid hpl
          have hps5 : ps.length ≤ 5 := by omega
          clear hnm hnl hpl
          go_loopw [4, 9] (fun ov iv wr => ∃ i : Nat, ∃ Fo : List Nat, i ≤ ps.length ∧ iv = .int .i64 i ∧ Hid (Own wr w.heap.size 112 2 DtR (dtsTo ps i) ov Fo) ∧ Hid (Free wr Fo) ∧ Hid (∀ b ∈ Fo, w6.heap.size ≤ b) ∧ Hid (∀ g ∈ rowOf ov, g = w.heap.size ∨ w6.heap.size ≤ g) ∧ Hid (Chg [w.heap.size] w6 wr) ∧ Below w.heap.size w wr ∧ w6.heap.size ≤ wr.heap.size) (fun _ iv _ => ps.length - (intOf iv).toNat)
          case atStart => exact ⟨0, [], Nat.zero_le _, rfl, HO6, Free.nil _, (fun b hb => by cases hb), (fun g hg => by rw [rowOf_some, List.mem_singleton] at hg; exact .inl hg), Chg.refl _ _, hB, Nat.le_refl _⟩
          case round =>
            clear hB HO6
            obtain ⟨i, Fo, hi, rfl, HO, HFr, HFh, HR, HC, hB, hw6r⟩ := hrel
            by_cases hil : i < ps.length
            · have hnl := HNL.out
              have u3 : decide ((i : Int) < (names.length : Int)) = true := decide_eq_true (by omega)
              have g1 : (0 : Int) ≤ (i : Int) := by omega
              have g2 : (i : Int) < (names.length : Int) := by omega
              clear hnl
              obtain ⟨hil2, hcut⟩ := HPP.out i hil
              have g3 : (i : Int) < (lines.length : Int) := by omega
              have HLr : Hid (Arr wr (StrR wr) lines (.slice A3 lines.length cap3) F3) := ArrStr.mono HLA.out (HC.out.kept (fun b hb => (HLU.out b hb).2) (fun b hb => by have := (HLU.out b hb).1; simp; omega))
              have HNr : Hid (Arr wr (StrR wr) names (.slice nA names.length ncap) Fn) := ArrStr.mono HNA.out (HC.out.kept (fun b hb => (HFN.out b hb).2) (fun b hb => by have := (HFN.out b hb).1; simp; omega))
              have hFnr : Hid (Under wr.heap.size Fn) := fun b hb => Nat.lt_of_lt_of_le (HFN.out b hb).2 hw6r
              obtain ⟨bL, offL, rfl⟩ := HLr.out.ptr (by omega)
              obtain ⟨hbL, cL⟩ := ArrStr.at HLr.out (fun b hb => Nat.lt_of_lt_of_le (HLU.out b hb).2 hw6r) (Below.refl _ _) i hil2
              have hlsz : lines[i].size ≤ 1000000 := Nat.le_trans (HLM.out _ (List.getElem_mem hil2)) hs
              have hcall : Calls Try.prog 200 #[.string lines[i], .int .u8 61] wr (MadeStrs wr (cutS 61 lines[i])) := spec_l17Cut lines[i] 61 hlsz wr
              rw [hcut] at hcall
              have HCALL := Lib.hid hcall
              clear hcall hcut
              go_wp2_with fail
              refine HCALL.out.mono ?_
              rintro e w7 ⟨v7, F7, rfl, hb7, ha7, -, hfs7⟩
              obtain ⟨A7, cap7, rfl, hc7, hc8⟩ := ha7.form
              obtain ⟨b7, off7, rfl⟩ := ha7.ptr (by simp)
              obtain ⟨hb7l, p71⟩ := ArrStr.at ha7 hfs7.under (Below.refl _ _) 1 (by simp)
              have p71 : w7.cell? ⟨b7, off7 + 1, none⟩ = some (.string ps[i].2) := p71
              have hB7 := hB.trans (hb7.mono hB.size)
              have hpsz := (HSZ.out ps[i] (List.getElem_mem hil))
              have hcall2 : Calls Try.prog 200 #[.string ps[i].2, .int .u8 124] w7 (MadeStrs w7 (cutS 124 ps[i].2)) := spec_l17Cut ps[i].2 124 hpsz.2 w7
              have HCALL2 := Lib.hid hcall2
              clear hcall2 HCALL cL hbL ha7 hfs7
              go_wp2_with fail
              refine HCALL2.out.mono ?_
              rintro e w8 ⟨v8, F8, rfl, hb8, ha8, -, hfs8⟩
              obtain ⟨A8, cap8, rfl, hc9, hc10⟩ := ha8.form
              have hB8 := hB7.trans (hb8.mono hB7.size)
              have hr8 : Below wr.heap.size wr w8 := hb7.trans (hb8.mono hb7.size)
              have hcm := cutS_mem 124 ps[i].2
              obtain ⟨cl, hcl⟩ : ∃ l, cutS 124 ps[i].2 = l := ⟨_, rfl⟩
              rw [hcl] at ha8 hcm
              have HCL := Lib.hid hcl
              have HA8 := Lib.hid ha8
              have HU8 := Lib.hid hfs8.under
              have HCM := Lib.hid hcm
              clear hcm
              rw [hcl] at hc9 ⊢
              clear hcl ha8 hfs8 p71 hb7l HCALL2
              have HN8 : Hid (Arr w8 (StrR w8) names (.slice nA names.length ncap) Fn) := ArrStr.below HNr.out hr8 hFnr.out
              have hFn8 : Hid (Under w8.heap.size Fn) := hFnr.out.mono hr8.size
              obtain ⟨bN, offN, hnA⟩ := HN8.out.ptr (by have := HNL.out; omega)
              subst hnA
              obtain ⟨hbN, cN⟩ := ArrStr.at HN8.out hFn8.out (Below.refl _ _) i (by have := HNL.out; omega)
              have hnmi : names[i]'(by have := HNL.out; omega) = ps[i].1 := by have h := HNM.out; subst h; exact namesOf_get ps i hil
              rw [hnmi] at cN
              have hw9 : Below w8.heap.size w8 (w8.alloc (.cells #[.string ps[i].1, .slice none 0 0] 112)) := (Below.refl _ _).alloc (Nat.le_refl _) _
              have HO8 : Hid (Own w8 w.heap.size 112 2 DtR (dtsTo ps i) u4 Fo) := HO.out.below (fun x cs G hk h => DtR_mono' _ _ x cs G hk h) hr8
              have HFr8 : Hid (Free w8 Fo) := HFr.out.kept (.of_below hr8 HO.out.under)
              have HC8 : Hid (Chg [w.heap.size] w6 w8) := HC.out.step hr8
              have hw68 : w6.heap.size ≤ w8.heap.size := Nat.le_trans hw6r hr8.size
              have HO9 : Hid (Own (w8.alloc (.cells #[.string ps[i].1, .slice none 0 0] 112)) w.heap.size 112 2 DtR (dtsTo ps i) u4 Fo) := HO8.out.below (fun x cs G hk h => DtR_mono' _ _ x cs G hk h) hw9
              have HFr9 : Hid (Free (w8.alloc (.cells #[.string ps[i].1, .slice none 0 0] 112)) Fo) := HFr8.out.kept (.of_below hw9 HO8.out.under)
              have HC9 : Hid (Chg [w.heap.size] w6 (w8.alloc (.cells #[.string ps[i].1, .slice none 0 0] 112))) := HC8.out.step hw9
              have KD9 : Hid (Blk (w8.alloc (.cells #[.string ps[i].1, .slice none 0 0] 112)) w8.heap.size 112 #[.string ps[i].1, .slice none 0 0]) := Blk.new _ _ _
              have HN9 : Hid (Arr (w8.alloc (.cells #[.string ps[i].1, .slice none 0 0] 112)) (StrR _) names (.slice (some ⟨bN, offN, none⟩) names.length ncap) Fn) := ArrStr.below HN8.out hw9 hFn8.out
              have HA9 : Hid (Arr (w8.alloc (.cells #[.string ps[i].1, .slice none 0 0] 112)) (StrR _) cl (.slice A8 cl.length cap8) F8) := ArrStr.below HA8.out hw9 HU8.out
              have hB9 := hB8.trans (hw9.mono hB8.size)
              have hD : w.heap.size < w8.heap.size := Nat.lt_of_lt_of_le (by omega) hw68
              have hw9s : (w8.alloc (.cells #[.string ps[i].1, .slice none 0 0] 112)).heap.size = w8.heap.size + 1 := World.size_alloc _ _
              go_wp2
              obtain ⟨w9, hw9e⟩ : ∃ w9, w9 = w8.alloc (.cells #[.string ps[i].1, .slice none 0 0] 112) := ⟨_, rfl⟩
              rw [← hw9e] at HO9 HFr9 HC9 KD9 HN9 HA9 hB9 hw9s ⊢
              have HB8 : Hid (∀ b ∈ rowOf u4 ++ Fo, b < w8.heap.size) := fun b hb => by
                rcases List.mem_append.1 hb with h | h
                · exact (HO8.out.row b h).2
                · exact HO8.out.under b h
              clear hw9 hw9e HO8 HFr8 HC8 HN8 HA8 HLr HNr HO HFr HC hB hB7 hB8 hb7 hb8 hr8 cN hbN
              have hpz := hpsz.1
              have hpz2 := hpsz.2
              clear hpsz
              go_loopw [12] (fun kv' wr => ∃ k : Nat, ∃ kv : Value, ∃ Fk : List Nat, k ≤ cl.length ∧ k ≤ 5 ∧ kv' = .int .i64 k ∧ Hid (Blk wr w8.heap.size 112 #[.string ps[i].1, kv]) ∧ Hid (Own wr (w8.heap.size + 1) 164 3 KtR (ktsTo names cl k) kv Fk) ∧ Hid (Free wr Fk) ∧ Hid (∀ b ∈ Fk, w8.heap.size + 1 ≤ b) ∧ Hid (Chg [w8.heap.size] w9 wr) ∧ Below w.heap.size w wr ∧ w9.heap.size ≤ wr.heap.size) (fun kv' _ => 5 - (intOf kv').toNat)
              case atStart => exact ⟨0, _, [], Nat.zero_le _, by omega, rfl, KD9, (show Own _ _ _ _ _ (ktsTo names cl 0) _ _ from Own.nil _ _ _ _ _), Free.nil _, (fun b hb => by cases hb), Chg.refl _ _, hB9, Nat.le_refl _⟩
              case round =>
                clear hB9 KD9
                obtain ⟨k, kv, Fk, hkl, hk5, rfl, KD, HOk, HFk, HFkh, HCk, hB, hw9r⟩ := hrel
                obtain ⟨kA, kcap, hkv, hkc1, hkc2⟩ := HOk.out.form
                subst hkv
                have z0 : wr.cell? ⟨w8.heap.size, 0, none⟩ = some (.string ps[i].1) := (KD.out.cell 0).trans (by simp)
                have z1 : wr.cell? ⟨w8.heap.size, 1, none⟩ = some (.slice kA (ktsTo names cl k).length kcap) := (KD.out.cell 1).trans (by simp)
                have zf1 := KD.out.frozen 1
                have hkz := KD.out.lt
                by_cases hlt : k < cl.length ∧ k ≤ 4
                · obtain ⟨hk1, hk2⟩ := hlt
                  have u5 : decide ((k : Int) < (cl.length : Int)) = true := decide_eq_true (by omega)
                  have u6 : decide ((k : Int) ≤ 4) = true := decide_eq_true (by omega)
                  have g5 : (0 : Int) ≤ (k : Int) := by omega
                  have g6 : (k : Int) < (cl.length : Int) := by omega
                  obtain ⟨b5, off5, rfl⟩ := HA9.out.ptr (by omega)
                  have hu9 : Hid (∀ b ∈ F8, b < w8.heap.size) := HU8.out
                  have HAr : Hid (Arr wr (StrR wr) cl (.slice (some ⟨b5, off5, none⟩) cl.length cap8) F8) := ArrStr.mono HA9.out (HCk.out.kept (fun b hb => by have := hu9.out b hb; omega) (fun b hb => by have := hu9.out b hb; simp; omega))
                  have HNr : Hid (Arr wr (StrR wr) names (.slice (some ⟨bN, offN, none⟩) names.length ncap) Fn) := ArrStr.mono HN9.out (HCk.out.kept (fun b hb => by have := hFn8.out b hb; omega) (fun b hb => by have := hFn8.out b hb; simp; omega))
                  obtain ⟨hb5l, c0⟩ := ArrStr.at HAr.out (fun b hb => by have := hu9.out b hb; omega) (Below.refl _ _) k hk1
                  have hb5w : b5 < w8.heap.size := by
                    obtain ⟨b', off', cs', G', e', hb', -⟩ := HAr.out.get (StrR_len wr) hk1
                    cases e'
                    exact hu9.out _ hb'
                  have hb5n : w8.heap.size ≠ b5 := by omega
                  have hm5 : cl[k].size ≤ 1000000 := Nat.le_trans (HCM.out _ (List.getElem_mem hk1)) hpz2
                  have HF2 := Lib.hid (ktsTo_succ names cl k hk1)
                  have hkl4 : (ktsTo names cl k).length ≤ 4 := Nat.le_trans (ktsTo_len names cl k) hk2
                  have hmx : (ktsTo names cl k).length + 1 ≤ maxLen := by unfold maxLen; omega
                  have hby : ((ktsTo names cl k).length + 1) * 48 ≤ 140737488355328 := by omega
                  have hwr8 : w8.heap.size + 1 ≤ wr.heap.size := by omega
                  have hb5w1 : b5 < w8.heap.size + 1 := by omega
                  have hHD8 : w.heap.size ≤ w8.heap.size := by omega
                  have HCALL := Lib.hid (spec_l1ParseCtor names cl[k] wr.drew _ Fn (ArrStr.mono (w := wr) HNr.out (fun _ _ => rfl)) (fun b hb => by have := hFn8.out b hb; show b < wr.heap.size; omega) hm5)
                  go_wp2_with fail
                  generalize hpk : pkt names cl[k] = c at HCALL HF2
                  clear hpk
                  refine wp_region_B (S := fun w' => w'.cell? ⟨b5, off5 + k, none⟩ = some (.string cl[k])) (T := fun w' => w'.cell? ⟨w8.heap.size, 1, none⟩ = some (.slice kA (ktsTo names cl k).length kcap)) (d := 9) (by kernel_rfl) ?_
                  have hS1 : wr.drew.cell? ⟨b5, off5 + k, none⟩ = some (.string cl[k]) := c0
                  have hT1 : wr.drew.cell? ⟨w8.heap.size, 1, none⟩ = some (.slice kA (ktsTo names cl k).length kcap) := z1
                  refine wpAnyB_take (i := 0) (v := ?_) rfl (by decide) (by kernel_rfl) (by kernel_rfl) (by kernel_rfl) (fun _ _ _ h => h) (Or.inl ⟨by rfl, ?hy0⟩) hS1 (fun _ => hT1) ?_
                  case hy0 => (intro W hSw; (try dsimp only at hSw); go_simp; try with_reducible rfl)

                  (try simp only [Act.put, List.setIfInBounds_toArray, List.set_cons_zero, List.set_cons_succ])
                  refine wpAnyB_takeB (i := 1) (v := ?_) rfl (by decide) rfl (by kernel_rfl) (by kernel_rfl) (by kernel_rfl) (by kernel_rfl) (fun _ _ _ h => h) (Or.inl ⟨by rfl, ?hy1⟩) (by rfl) hS1 hT1 ?_
                  case hy1 => (intro W hSw; (try dsimp only at hSw); go_simp; try with_reducible rfl)

                  (try simp only [Act.put, List.setIfInBounds_toArray, List.set_cons_zero, List.set_cons_succ])
                  refine wpAnyB_take (i := 2) (v := ?_) rfl (by decide) (by kernel_rfl) (by kernel_rfl) (by kernel_rfl) (fun _ _ _ h => h) (Or.inl ⟨by rfl, ?hy2⟩) hS1 (fun _ => hT1) ?_
                  case hy2 => (intro W hSw; (try dsimp only at hSw); go_simp; try with_reducible rfl)

                  (try simp only [Act.put, List.setIfInBounds_toArray, List.set_cons_zero, List.set_cons_succ])
                  refine wpAnyB_take (i := 3) (v := ?_) rfl (by decide) (by kernel_rfl) (by kernel_rfl) (by kernel_rfl) (fun _ _ _ h => h) (Or.inl ⟨by rfl, ?hy3⟩) hS1 (fun _ => hT1) ?_
                  case hy3 => (intro W hSw; (try dsimp only at hSw); go_simp; try with_reducible rfl)

                  (try simp only [Act.put, List.setIfInBounds_toArray, List.set_cons_zero, List.set_cons_succ])
                  refine wpAnyB_take (i := 4) (v := ?_) rfl (by decide) (by kernel_rfl) (by kernel_rfl) (by kernel_rfl) (fun _ _ _ h => h) (Or.inl ⟨by rfl, ?hy4⟩) hS1 (fun _ => hT1) ?_
                  case hy4 => (intro W hSw; (try dsimp only at hSw); go_simp; try with_reducible rfl)

                  (try simp only [Act.put, List.setIfInBounds_toArray, List.set_cons_zero, List.set_cons_succ])
                  refine wpAnyB_take (i := 5) (v := ?_) rfl (by decide) (by kernel_rfl) (by kernel_rfl) (by kernel_rfl) (fun _ _ _ h => h) (Or.inl ⟨by rfl, ?hy5⟩) hS1 (fun _ => hT1) ?_
                  case hy5 => (intro W hSw; (try dsimp only at hSw); go_simp; try with_reducible rfl)

                  (try simp only [Act.put, List.setIfInBounds_toArray, List.set_cons_zero, List.set_cons_succ])
                  refine wpAnyB_take (i := 6) (v := ?_) rfl (by decide) (by kernel_rfl) (by kernel_rfl) (by kernel_rfl) (fun _ _ _ h => h) (Or.inl ⟨by rfl, ?hy6⟩) hS1 (fun _ => hT1) ?_
                  case hy6 => (intro W hSw; (try dsimp only at hSw); go_simp; try with_reducible rfl)

                  (try simp only [Act.put, List.setIfInBounds_toArray, List.set_cons_zero, List.set_cons_succ])
                  refine wpAnyB_ready (rs := [7]) (by kernel_rfl) (by simp) ?_
                  refine AllReadyB.cons rfl (fun K hK => ?_) AllReadyB.nil
                  go_simp
                  go_at_call 201
                  with_reducible refine HCALL.out.mono ?_
                  rintro e wA ⟨cs, G, rfl, hBA, hkA', hfrA, hfsA⟩
                  obtain ⟨cA, ccap, rfl⟩ := KtR_form hkA'
                  have hBu := below_undrew hBA
                  have hS6 : wA.cell? ⟨b5, off5 + k, none⟩ = some (.string cl[k]) := (hBu.cell hb5l).trans c0
                  have z61 : wA.cell? ⟨w8.heap.size, 1, none⟩ = some (.slice kA (ktsTo names cl k).length kcap) := (hBu.cell hkz).trans z1
                  have zf61 : wA.frozen? ⟨w8.heap.size, 1, none⟩ = false := (hBu.frozen hkz).trans zf1
                  have hkz6 : w8.heap.size < wA.heap.size := Nat.lt_of_lt_of_le hkz hBu.size
                  have HOA : Hid (Own wA (w8.heap.size + 1) 164 3 KtR (ktsTo names cl k) (.slice kA (ktsTo names cl k).length kcap) Fk) := HOk.out.below (fun x cs G hk h => KtR_mono' _ _ x cs G hk h) hBu
                  have HKA := Lib.hid hkA'
                  have HfrA := Lib.hid hfrA
                  have HfsA : Hid (∀ b ∈ G, wr.heap.size ≤ b ∧ b < wA.heap.size) := hfsA
                  clear hkA' hfrA hfsA
                  dsimp only
                  refine hK.out _ _ hS6 (fun _ => z61) ?_
                  clear hK K
                  (try simp only [Act.put, List.setIfInBounds_toArray, List.set_cons_zero, List.set_cons_succ])
                  refine wpAnyB_ready (rs := [8]) (by kernel_rfl) (by simp) ?_
                  refine AllReadyB.cons rfl (fun K hK => ?_) AllReadyB.nil
                  go_simp
                  refine hK.out _ _ ((World.cell?_alloc_lt _ _ _ (Nat.lt_of_lt_of_le hb5l hBu.size)).trans hS6) (fun _ => (World.cell?_alloc_lt _ _ _ hkz6).trans z61) ?_
                  clear hK K
                  (try simp only [Act.put, List.setIfInBounds_toArray, List.set_cons_zero, List.set_cons_succ])
                  refine wpAnyB_ready (rs := [9]) (by kernel_rfl) (by simp) ?_
                  refine AllReadyB.cons rfl (fun K hK => ?_) AllReadyB.nil
                  refine step_push1 (P := Try.prog) rfl _ _ 110 rfl i0 _ 48 Try.underlying110 HI.out HZ0.out HZ1.out HZ2.out rfl (by decide) KtR_len' KtR_mono' (by rfl) HOA.out c 164 [.string c.name, .slice cA c.args.length ccap, .int .i64 c.idx] G _ (by rfl) rfl (by simp [Value.oneCell']) HKA.out (fun b hb => (HfsA.out b hb).2) (fun g hg hG => Nat.lt_irrefl _ (Nat.lt_of_lt_of_le (HOk.out.row g hg).2 (HfsA.out g hG).1)) hmx hby (Nat.le_trans hwr8 hBu.size) ?_
                  intro g cp w7 hown7 hgr7 hat7
                  have s7 : w7.cell? ⟨b5, off5 + k, none⟩ = some (.string cl[k]) := (World.cell?_of_block (a := ⟨b5, off5 + k, none⟩) (grow_old HOk.out hBu hgr7 hb5w1 hb5l)).trans c0
                  have z71 : w7.cell? ⟨w8.heap.size, 1, none⟩ = some (.slice kA (ktsTo names cl k).length kcap) := (World.cell?_of_block (a := ⟨w8.heap.size, 1, none⟩) (grow_old HOk.out hBu hgr7 (Nat.lt_succ_self _) hkz)).trans z1
                  have zf71 : w7.frozen? ⟨w8.heap.size, 1, none⟩ = false := (World.frozen?_of_block (a := ⟨w8.heap.size, 1, none⟩) (grow_old HOk.out hBu hgr7 (Nat.lt_succ_self _) hkz)).trans zf1
                  refine hK.out _ _ s7 (fun _ => z71) ?_
                  clear hK K
                  (try simp only [Act.put, List.setIfInBounds_toArray, List.set_cons_zero, List.set_cons_succ])
                  refine wpAnyB_take (i := 10) (v := ?_) rfl (by decide) (by kernel_rfl) (by kernel_rfl) (by kernel_rfl) (fun _ _ _ h => h) (Or.inl ⟨by rfl, ?hy10⟩) s7 (fun _ => z71) ?_
                  case hy10 => (intro W hSw; (try dsimp only at hSw); go_simp; try with_reducible rfl)
                  (try simp only [Act.put, List.setIfInBounds_toArray, List.set_cons_zero, List.set_cons_succ])
                  refine wpAnyB_ready (rs := [11]) (by kernel_rfl) (by simp) ?_
                  refine AllReadyB.cons rfl (fun K hK => ?_) AllReadyB.nil
                  go_simp
                  refine hK.out _ _ ((World.cell?_setCell_far _ _ _ _ hb5n).trans s7) (fun h => by cases h) ?_
                  clear hK K
                  (try simp only [Act.put, List.setIfInBounds_toArray, List.set_cons_zero, List.set_cons_succ])
                  refine wpAnyB_end (by kernel_rfl) ?_
                  all_goals (
                    obtain ⟨r1, r2, r3, r4, r5, r6, r7⟩ := grow_round KtR_mono' hw9s KD.out HOk.out HFk.out HFkh.out HCk.out hB hHD8 (Nat.le_refl _) hBu HfrA.out HfsA.out hown7 hgr7
                    have R1 := Lib.hid r1
                    have R2 := Lib.hid r2
                    have R3 := Lib.hid r3
                    have R4 := Lib.hid r4
                    have R5 := Lib.hid r5
                    have R6 := Lib.hid r6
                    clear r1 r2 r3 r4 r5 r6 hown7 hgr7 hat7 hS1 hT1 hS6 s7 z61 zf61 z0 z1 zf1 z71 zf71 HOA HKA HfrA HfsA hBu hBA hkz6
                    go_wp2
                    go_roundw
                    case rel => exact ⟨k + 1, _, Fk ++ G, hk1, Nat.succ_le_succ hk2, by go_num, R1, by rw [HF2.out]; exact R2.out, R3, R4, R5, R6.out, r7⟩
                    case measure => (simp [intOf] <;> omega))
                · have hpd : Hid (pdt (namesOf ps) ps[i] = ⟨ps[i].1, ktsTo names cl k⟩) := by
                    unfold Hid pdt
                    rw [HNM.out, HCL.out, ktsTo_all names cl hk5 (by omega)]
                  have HF2 := Lib.hid (dtsTo_succ ps i hil)
                  have hdl : (dtsTo ps i).length ≤ 5 := Nat.le_trans (dtsTo_len ps i) (by omega)
                  have hOr : Hid (Own wr w.heap.size 112 2 DtR (dtsTo ps i) u4 Fo) := Own.mono (w := w9) (fun x cs G hk h => DtR_mono' _ _ x cs G hk h) HO9.out (HCk.out.kept (fun b hb => by have := HB8.out b hb; omega) (fun b hb => by have := HB8.out b hb; simp; omega)) HCk.out.size
                  have hFrr : Hid (Free wr Fo) := HFr9.out.kept (HCk.out.kept (fun b hb => by have := HB8.out b (List.mem_append.2 (.inr hb)); omega) (fun b hb => by have := HB8.out b (List.mem_append.2 (.inr hb)); simp; omega))
                  have hCr : Hid (Chg [w.heap.size] w6 wr) := HC9.out.trans_new HCk.out hw68
                  have harr := HOk.out.arr
                  have hfree := HOk.out.free HFk.out
                  have hrk := HOk.out.row
                  have hff : ∀ b ∈ (if ktsTo names cl k = [] then [] else rowOf (.slice kA (ktsTo names cl k).length kcap) ++ Fk), w8.heap.size + 1 ≤ b ∧ b < wr.heap.size := fun b hb => by
                    split at hb
                    · cases hb
                    · rcases List.mem_append.1 hb with h | h
                      · exact hrk b h
                      · exact ⟨HFkh.out b h, HOk.out.under b h⟩
                  generalize (if ktsTo names cl k = [] then [] else rowOf (.slice kA (ktsTo names cl k).length kcap) ++ Fk) = FF at harr hfree hff
                  have HFF := Lib.hid hff
                  have HFREE := Lib.hid hfree
                  have HDX : Hid (DtR wr ⟨ps[i].1, ktsTo names cl k⟩ [.string ps[i].1, .slice kA (ktsTo names cl k).length kcap] FF) := ⟨_, rfl, harr, (show ps[i].1.size ≤ 9223372036854775807 by omega)⟩
                  clear harr hfree hrk hff HOk HFk HFkh HO9 HFr9 HC9 HN9 HA9 HU8
                  have hbs : w.heap.size ≤ wr.heap.size := hB.size
                  by_cases hk5' : k < cl.length
                  · have u5 : decide ((k : Int) < (cl.length : Int)) = true := decide_eq_true (by omega)
                    have u6 : decide ((k : Int) ≤ 4) = false := decide_eq_false (by omega)
                    clear hlt
                    go_wp2_with (at_builtin; refine Halt.mk ?_)
                    refine Halt.of (wpList_push1 (P := Try.prog) rfl _ _ 35 rfl m0 _ 40 Try.underlying35 HM.out HM0.out HM1.out HM2.out rfl (by decide) DtR_len' DtR_mono' (by rfl) hOr.out ⟨ps[i].1, ktsTo names cl k⟩ 112 [.string ps[i].1, .slice kA (ktsTo names cl k).length kcap] FF _ (by rfl) (by simp) (by simp [Value.oneCell']) HDX.out (fun b hb => (HFF.out b hb).2) (fun g hg hG => by have h1 := HB8.out g (List.mem_append.2 (.inl hg)); have h2 := (HFF.out g hG).1; omega) (by unfold maxLen; omega) (by omega) hbs ?_)
                    intro g cp w7 hown7 hgr7 hat7
                    obtain ⟨r1, r2, r3, r4, r5, r6⟩ := push_round (n := (dtsTo ps i).length + 1) (cp := cp) hOr.out hFrr.out HFREE.out HB8.out HFF.out HR.out hCr.out hB (Nat.le_refl _) HFh.out hw68 hgr7 hat7
                    have HFr7 := Lib.hid r1
                    have HFh7 := Lib.hid r2
                    have HR7 := Lib.hid r3
                    have HC7 := Lib.hid r4
                    have HB7 := Lib.hid r5
                    clear r1 r2 r3 r4 r5
                    have HO7 := Lib.hid hown7
                    have HEQ : Hid (dtsTo ps (i + 1) = dtsTo ps i ++ [⟨ps[i].1, ktsTo names cl k⟩]) := by unfold Hid; rw [HF2.out, hpd.out]
                    clear hown7 hgr7 hat7
                    go_wp2
                    go_roundw
                    case rel => exact ⟨i + 1, Fo ++ FF, by omega, by go_num, by rw [HEQ.out]; exact HO7.out, HFr7, HFh7, HR7, HC7, HB7.out, r6⟩
                    case measure => (simp [intOf] <;> omega)
                  · have u5 : decide ((k : Int) < (cl.length : Int)) = false := decide_eq_false (by omega)
                    clear hlt
                    go_wp2_with (at_builtin; refine Halt.mk ?_)
                    refine Halt.of (wpList_push1 (P := Try.prog) rfl _ _ 35 rfl m0 _ 40 Try.underlying35 HM.out HM0.out HM1.out HM2.out rfl (by decide) DtR_len' DtR_mono' (by rfl) hOr.out ⟨ps[i].1, ktsTo names cl k⟩ 112 [.string ps[i].1, .slice kA (ktsTo names cl k).length kcap] FF _ (by rfl) (by simp) (by simp [Value.oneCell']) HDX.out (fun b hb => (HFF.out b hb).2) (fun g hg hG => by have h1 := HB8.out g (List.mem_append.2 (.inl hg)); have h2 := (HFF.out g hG).1; omega) (by unfold maxLen; omega) (by omega) hbs ?_)
                    intro g cp w7 hown7 hgr7 hat7
                    obtain ⟨r1, r2, r3, r4, r5, r6⟩ := push_round (n := (dtsTo ps i).length + 1) (cp := cp) hOr.out hFrr.out HFREE.out HB8.out HFF.out HR.out hCr.out hB (Nat.le_refl _) HFh.out hw68 hgr7 hat7
                    have HFr7 := Lib.hid r1
                    have HFh7 := Lib.hid r2
                    have HR7 := Lib.hid r3
                    have HC7 := Lib.hid r4
                    have HB7 := Lib.hid r5
                    clear r1 r2 r3 r4 r5
                    have HO7 := Lib.hid hown7
                    have HEQ : Hid (dtsTo ps (i + 1) = dtsTo ps i ++ [⟨ps[i].1, ktsTo names cl k⟩]) := by unfold Hid; rw [HF2.out, hpd.out]
                    clear hown7 hgr7 hat7
                    go_wp2
                    go_roundw
                    case rel => exact ⟨i + 1, Fo ++ FF, by omega, by go_num, by rw [HEQ.out]; exact HO7.out, HFr7, HFh7, HR7, HC7, HB7.out, r6⟩
                    case measure => (simp [intOf] <;> omega)
            · have HPS : Hid (parseS text = some (dtsTo ps i)) := by unfold Hid; rw [HPS0.out, dtsTo_all ps (by omega)]
              have u3 : decide ((i : Int) < (names.length : Int)) = false := decide_eq_false (by have := HNL.out; omega)
              have HFh2 : Hid (∀ b ∈ Fo, w.heap.size ≤ b) := fun b hb => by have := HFh.out b hb; omega
              clear HFh
              have HFh := HFh2
              have hil3 : ¬ i < names.length := by have := HNL.out; omega
              clear HFh2 hil
              have harr := HO.out.arr
              have hfree := HO.out.free HFr.out
              have hfresh := Own.fresh (w0 := w) HO.out (Nat.le_refl _) HFh.out
              generalize (if (dtsTo ps i) = [] then [] else rowOf (u4) ++ Fo) = FF at harr hfree hfresh
              have HARR := Lib.hid harr
              have HFREE := Lib.hid hfree
              have HFRESH := Lib.hid hfresh
              clear harr hfree hfresh HO HFr HFh
              generalize hxx : (dtsTo ps i) = xx at *
              clear hxx
              go_wp2_with fail
              refine (spec_WorldValid xx wr _ FF HARR.out HFRESH.out.under).mono ?_
              rintro e w8 ⟨rfl, hb8⟩
              have hB8 := hB.trans (hb8.mono hB.size)
              cases e1 : worldOk xx with
              | false =>
                have HNO := Lib.hid (parseB_no HPS.out e1)
                clear e1
                have hfin : GivesWorld w (parseB text) (.returned (.tuple #[.slice (some ⟨w8.heap.size, 0, none⟩) 0 0, .bool false])) (w8.alloc (.cells #[] 112)) := by
                  rw [HNO.out]
                  exact ⟨_, [], rfl, hB8.alloc hB8.size _, ⟨_, _, rfl, by simp, by simp [maxLen], .inl ⟨rfl, rfl⟩⟩, Free.nil _, Fresh.nil _ _⟩
                have HFin := Lib.hid hfin
                clear hfin
                go_wp2
                go_ret2
                exact HFin.out
              | true =>
                have HW := Lib.hid (worldOK e1)
                have HE1 := Lib.hid e1
                clear e1
                have HA8 := Lib.hid (ArrDt.below HARR.out hb8 HFRESH.out.under)
                have hF8 := Lib.hid (HFRESH.out.under.mono hb8.size)
                go_wp2_with fail
                refine (spec_l1Text xx HW.out w8 _ FF HA8.out hF8.out).mono ?_
                rintro e w9 ⟨rfl, hb9⟩
                have hB9 := hB8.trans (hb9.mono hB8.size)
                have hb89 := hb8.trans (hb9.mono hb8.size)
                generalize htt : bs (textT xx) = tt
                cases e2 : (tt.toList == text.toList) with
                | true =>
                  have HYES : Hid (parseB text = some xx) := parseB_yes HPS.out HE1.out (by rw [beq_iff_eq, toList_tl, toList_tl, ← htt, tl_bs] at e2; exact e2)
                  have hfin : GivesWorld w (parseB text) (.returned (.tuple #[u4, .bool true])) w9 := by
                    rw [HYES.out]
                    exact ⟨_, FF, rfl, hB9, ArrDt.below HARR.out hb89 HFRESH.out.under, HFREE.out.kept (.of_below hb89 HFRESH.out.under), fun b hb => ⟨(HFRESH.out b hb).1, Nat.lt_of_lt_of_le (HFRESH.out b hb).2 hb89.size⟩⟩
                  have HFin := Lib.hid hfin
                  clear hfin htt
                  go_wp2
                  go_ret2
                  exact HFin.out
                | false =>
                  have HNO : Hid (parseB text = none) := parseB_text HPS.out (fun h => by rw [beq_eq_false_iff_ne, toList_tl, toList_tl, ← htt, tl_bs] at e2; exact e2 h)
                  clear htt
                  have hfin : GivesWorld w (parseB text) (.returned (.tuple #[.slice (some ⟨w9.heap.size, 0, none⟩) 0 0, .bool false])) (w9.alloc (.cells #[] 112)) := by
                    rw [HNO.out]
                    exact ⟨_, [], rfl, hB9.alloc hB9.size _, ⟨_, _, rfl, by simp, by simp [maxLen], .inl ⟨rfl, rfl⟩⟩, Free.nil _, Fresh.nil _ _⟩
                  have HFin := Lib.hid hfin
                  clear hfin
                  go_wp2
                  go_ret2
                  exact HFin.out
end Go.Proofs.Ytbffkgfhcmigaaa

namespace Go.Proofs.Ytbffkgfhcmigaaa
open Go.RowKit

def eightT : List ByteArray := (sevenT ++ [[]]).map bs

set_option maxRecDepth 100000 in
set_option maxHeartbeats 1600000 in
theorem spec_l1Texts (w : World) : Calls Try.prog 184 #[] w fun e w' => e = .returned (.slice (some ⟨w.heap.size, 0, none⟩) 8 8) ∧ w' = w.alloc (.cells (eightT.map Value.string).toArray 9) := by
  go_enter Try.func184, Try.ntmps184
  go_wp2
  go_ret
  exact ⟨rfl, rfl⟩
theorem seven_at {r : Nat} (h : r < 7) : ∃ t, eightT[r]? = some (bs t) ∧ t ∈ sevenT ∧ (bs t).size ≤ 100 := by
  have key : ∀ r : Fin 7, ∃ t, eightT[r.1]? = some (bs t) ∧ t ∈ sevenT ∧ (bs t).size ≤ 100 := by
    intro ⟨r, hr⟩
    have h7 : sevenT.length = 7 := rfl
    have hr7 : r < sevenT.length := by omega
    refine ⟨sevenT[r], ?_, List.getElem_mem hr7, ?_⟩
    · unfold eightT
      rw [List.getElem?_map, List.getElem?_append_left hr7, List.getElem?_eq_getElem hr7]; rfl
    · have hall : ∀ t ∈ sevenT, t.length ≤ 100 := by decide
      exact hall _ (List.getElem_mem hr7)
  exact key ⟨r, h⟩
theorem seven_parse {t : List UInt8} (h : t ∈ sevenT) : ∃ xs, parseB (bs t) = some xs ∧ worldOk xs = true ∧ 0 < xs.length := by
  have := List.all_eq_true.1 sevenT_fine t h
  exact fineW_ex this
/-- a world that the call has made, of the shape that drawn worlds have -/
def DrewWorld (g p n : Nat) (w : World) (Q : List Dt → Prop) (e : Ending) (w' : World) : Prop := ∃ xs v F q, e = .returned v ∧ Q xs ∧ Arr w' (DtR w') xs v F ∧ Fresh w w' F ∧ Rd w' g q ∧ q ≤ p + n ∧ Chg [g] w w'

set_option maxRecDepth 100000 in
set_option maxHeartbeats 1600000 in
theorem spec_l1WorldQ (Q : List Dt → Prop) (hQ : ∀ t ∈ sevenT, ∃ xs, parseB (bs t) = some xs ∧ Q xs) (p g : Nat) (w : World) (h : Rd w g p) (hp : p ≤ 900000) : Calls Try.prog 157 #[.pointer (some ⟨g, 0, none⟩)] w (DrewWorld g p 1 w Q) := by
  have HR0 := Lib.hid h
  have hgl := h.lt
  clear h
  go_enter Try.func157, Try.ntmps157
  go_wp2_with fail
  refine (spec_l1Texts w).mono ?_
  rintro e w1 ⟨rfl, hw1⟩
  have hb1 : Below w.heap.size w w1 := by rw [hw1]; exact (Below.refl _ _).alloc (Nat.le_refl _) _
  have hk1 : Blk w1 w.heap.size 9 (eightT.map Value.string).toArray := by rw [hw1]; exact Blk.new _ _ _
  have HR1 := Lib.hid (HR0.out.below hb1)
  have HK1 := Lib.hid hk1
  clear hw1 hk1
  go_wp2_with fail
  refine (pick_any 7 p g w1 HR1.out (by omega) (by omega) (by omega)).mono ?_
  rintro e w2 ⟨r, rfl, hr, hR2, hC2⟩
  obtain ⟨t, ht, htm, htl⟩ := seven_at hr
  have hlt1 := HK1.out.lt
  have c1 : w1.cell? ⟨w.heap.size, r, none⟩ = some (.string (bs t)) := (HK1.out.cell r).trans (by simp [ht])
  have c2 : w2.cell? ⟨w.heap.size, r, none⟩ = some (.string (bs t)) := (hC2.cell hlt1 (by simp; omega)).trans c1
  obtain ⟨xs, hxp, hxo⟩ := hQ t htm
  have HXP := Lib.hid hxp
  have HXO := Lib.hid hxo
  have HR2 := Lib.hid hR2
  have HC2 := Lib.hid hC2
  have g1 : (0 : Int) ≤ (r : Int) := by omega
  have g2 : (r : Int) < 8 := by omega
  have hsz2 := hC2.size
  clear hxp hxo hR2 hC2 c1 ht htm
  generalize hT : bs t = T at *
  clear hT
  go_wp2_with fail
  refine (spec_ParseWorld T (by omega) w2).mono ?_
  rintro e w3 ⟨v3, F3, rfl, hb3, ha3, -, hfs3⟩
  rw [HXP.out] at ha3 ⊢
  have hfin : DrewWorld g p 1 w Q (.returned v3) w3 :=
    ⟨xs, v3, F3, p + 1, rfl, HXO.out, ha3, fun b hb => ⟨Nat.le_trans (Nat.le_trans hb1.size hsz2) (hfs3 b hb).1, (hfs3 b hb).2⟩, HR2.out.below hb3, Nat.le_refl _, ((Chg.of_below hb1).trans HC2.out).step hb3⟩
  have HFin := Lib.hid hfin
  clear hfin ha3 hfs3 hb3
  go_wp2
  go_ret
  exact HFin.out
theorem spec_l1World (p g : Nat) (w : World) (h : Rd w g p) (hp : p ≤ 900000) : Calls Try.prog 157 #[.pointer (some ⟨g, 0, none⟩)] w (DrewWorld g p 1 w (fun xs => worldOk xs = true ∧ 0 < xs.length)) :=
  spec_l1WorldQ _ (fun _ ht => by obtain ⟨xs, h1, h2, h3⟩ := seven_parse ht; exact ⟨xs, h1, h2, h3⟩) p g w h hp
end Go.Proofs.Ytbffkgfhcmigaaa

namespace Go.Proofs.Ytbffkgfhcmigaaa
open Go.RowKit

theorem Chg.set_new {F : List Nat} {w w2 : World} {b j : Nat} {u : Value} (h : Chg F w w2) (hb : w.heap.size ≤ b) : Chg F w (w2.setCell ⟨b, j, none⟩ u) :=
  ⟨h.os, h.tape, h.output, Nat.le_trans h.size (by simp [World.setCell]), fun c hc hF => (Below.heap_setCell _ _ _ _ (by show c ≠ b; omega)).trans (h.block c hc hF)⟩
/-- what l1Some gives -/
def DrewTy (g p n : Nat) (w : World) (e : Ending) (w' : World) : Prop := ∃ (t : Ty) (q : Nat), e = .returned (.agg #[.int .i64 t.d, .int .i64 t.i]) ∧ Rd w' g q ∧ q ≤ p + n ∧ Chg [g] w w'
set_option maxRecDepth 100000 in
set_option maxHeartbeats 1600000 in
theorem spec_l1Some (p g : Nat) (w : World) (h : Rd w g p) (hp : p ≤ 900000) (A : Option Addr) (n cap : Nat) (hn : 1 ≤ n) (hn2 : n ≤ 1000) : Calls Try.prog 115 #[.pointer (some ⟨g, 0, none⟩), .slice A n cap] w (DrewTy g p 4 w) := by
  have hgl := h.lt
  have hb1 : Below w.heap.size w (w.alloc (.cells #[.int .i64 0, .int .i64 0] 37)) := (Below.refl _ _).alloc (Nat.le_refl _) _
  have HR0 : Hid (Rd (w.alloc (.cells #[.int .i64 0, .int .i64 0] 37)) g p) := h.below hb1
  have HC0 : Hid (Chg [g] w (w.alloc (.cells #[.int .i64 0, .int .i64 0] 37))) := .of_below hb1
  have KH0 : Hid (Blk (w.alloc (.cells #[.int .i64 0, .int .i64 0] 37)) w.heap.size 37 #[.int .i64 0, .int .i64 0]) := Blk.new _ _ _
  clear h
  go_enter Try.func115, Try.ntmps115
  go_wp2_with fail
  obtain ⟨w1, hw1⟩ : ∃ w1, w1 = (w.alloc (.cells #[.int .i64 0, .int .i64 0] 37)) := ⟨_, rfl⟩
  rw [← hw1] at HR0 HC0 KH0 hb1 ⊢
  clear hw1
  refine (pick_any 16 p g w1 HR0.out (by omega) (by omega) (by omega)).mono ?_
  rintro e w2 ⟨r, rfl, hr, hR2, hC2⟩
  have HR2 := Lib.hid hR2
  have HC2 := Lib.hid (HC0.out.trans hC2)
  have KH2 := Lib.hid (KH0.out.same (hC2.block _ KH0.out.lt (by simp; omega)))
  clear hR2 hC2
  cases q0 : ((r : Int) == 0) with
  | true =>
    go_wp2_with fail
    refine (num_lit [-1, -2, 9, 0] (by decide) (by decide) (p + 1) g w2 HR2.out (by omega)).mono ?_
    rintro e w3 ⟨x3, hx3, rfl, hR3, hC3⟩
    have HR3 := Lib.hid hR3
    have HC3 := Lib.hid (HC2.out.trans hC3)
    have KH3 := Lib.hid (KH2.out.same (hC3.block _ KH2.out.lt (by simp; omega)))
    clear hR3 hC3 hx3
    go_wp2_with fail
    refine (num_lit [0, 1, -1, 4] (by decide) (by decide) (p + 1 + 1) g w3 HR3.out (by omega)).mono ?_
    rintro e w4 ⟨x4, hx4, rfl, hR4, hC4⟩
    have HR4 := Lib.hid hR4
    have HC4 := Lib.hid (HC3.out.trans hC4)
    have KH4 := Lib.hid (KH3.out.same (hC4.block _ KH3.out.lt (by simp; omega)))
    clear hR4 hC4 hx4
    have k0 : w4.cell? ⟨w.heap.size, 0, none⟩ = some (.int .i64 0) := (KH4.out.cell 0).trans (by simp)
    have k1 : w4.cell? ⟨w.heap.size, 1, none⟩ = some (.int .i64 0) := (KH4.out.cell 1).trans (by simp)
    have f0 := KH4.out.frozen 0
    have f1 := KH4.out.frozen 1
    have KF : Hid (Blk ((w4.setCell ⟨w.heap.size, 0, none⟩ (.int .i64 (x3))).setCell ⟨w.heap.size, 1, none⟩ (.int .i64 (x4))) w.heap.size 37 #[.int .i64 (x3), .int .i64 (x4)]) := (KH4.out.set_ 0 _).set_ 1 _
    have hC5 : Chg [g] w ((w4.setCell ⟨w.heap.size, 0, none⟩ (.int .i64 (x3))).setCell ⟨w.heap.size, 1, none⟩ (.int .i64 (x4))) := (Chg.set_new HC4.out (Nat.le_refl _)).set_new (Nat.le_refl _)
    have hRd : Rd ((w4.setCell ⟨w.heap.size, 0, none⟩ (.int .i64 (x3))).setCell ⟨w.heap.size, 1, none⟩ (.int .i64 (x4))) g (p + 1 + 1 + 1) := (HR4.out.set hgl).set hgl
    have hfin : DrewTy g p 4 w (.returned (.agg #[.int .i64 (x3), .int .i64 (x4)])) ((w4.setCell ⟨w.heap.size, 0, none⟩ (.int .i64 (x3))).setCell ⟨w.heap.size, 1, none⟩ (.int .i64 (x4))) := ⟨⟨x3, x4⟩, p + 1 + 1 + 1, rfl, hRd, by omega, hC5⟩
    have HFin := Lib.hid hfin
    clear hfin hRd hC5
    go_wp2
    refine bodyPost_ret (results_cell_row rfl _ _ w.heap.size 37 #[.int .i64 (x3), .int .i64 (x4)] (0, 0) _ rfl KF.out Try.underlying37 rfl rfl) rfl ?_
    exact HFin.out
  | false =>
    go_wp2_with fail
    refine (pick_any 8 (p + 1) g w2 HR2.out (by omega) (by omega) (by omega)).mono ?_
    rintro e w3 ⟨r3, rfl, hr3, hR3, hC3⟩
    have HR3 := Lib.hid hR3
    have HC3 := Lib.hid (HC2.out.trans hC3)
    have KH3 := Lib.hid (KH2.out.same (hC3.block _ KH2.out.lt (by simp; omega)))
    clear hR3 hC3
    cases q3 : ((r3 : Int) == 0) with
    | true =>
      have k0 : w3.cell? ⟨w.heap.size, 0, none⟩ = some (.int .i64 0) := (KH3.out.cell 0).trans (by simp)
      have k1 : w3.cell? ⟨w.heap.size, 1, none⟩ = some (.int .i64 0) := (KH3.out.cell 1).trans (by simp)
      have f0 := KH3.out.frozen 0
      have f1 := KH3.out.frozen 1
      have KF : Hid (Blk ((w3.setCell ⟨w.heap.size, 0, none⟩ (.int .i64 (-1))).setCell ⟨w.heap.size, 1, none⟩ (.int .i64 (0))) w.heap.size 37 #[.int .i64 (-1), .int .i64 (0)]) := (KH3.out.set_ 0 _).set_ 1 _
      have hC5 : Chg [g] w ((w3.setCell ⟨w.heap.size, 0, none⟩ (.int .i64 (-1))).setCell ⟨w.heap.size, 1, none⟩ (.int .i64 (0))) := (Chg.set_new HC3.out (Nat.le_refl _)).set_new (Nat.le_refl _)
      have hRd : Rd ((w3.setCell ⟨w.heap.size, 0, none⟩ (.int .i64 (-1))).setCell ⟨w.heap.size, 1, none⟩ (.int .i64 (0))) g (p + 1 + 1) := (HR3.out.set hgl).set hgl
      have hfin : DrewTy g p 4 w (.returned (.agg #[.int .i64 (-1), .int .i64 (0)])) ((w3.setCell ⟨w.heap.size, 0, none⟩ (.int .i64 (-1))).setCell ⟨w.heap.size, 1, none⟩ (.int .i64 (0))) := ⟨⟨-1, 0⟩, p + 1 + 1, rfl, hRd, by omega, hC5⟩
      have HFin := Lib.hid hfin
      clear hfin hRd hC5
      go_wp2
      refine bodyPost_ret (results_cell_row rfl _ _ w.heap.size 37 #[.int .i64 (-1), .int .i64 (0)] (0, 0) _ rfl KF.out Try.underlying37 rfl rfl) rfl ?_
      exact HFin.out
    | false =>
      go_wp2_with fail
      refine (pick_any n (p + 1 + 1) g w3 HR3.out (by omega) hn (by omega)).mono ?_
      rintro e w4 ⟨r4, rfl, hr4, hR4, hC4⟩
      have HR4 := Lib.hid hR4
      have HC4 := Lib.hid (HC3.out.trans hC4)
      have KH4 := Lib.hid (KH3.out.same (hC4.block _ KH3.out.lt (by simp; omega)))
      clear hR4 hC4
      go_wp2_with fail
      refine (num_lit [0, 0, 1, 2, 0, 3] (by decide) (by decide) (p + 1 + 1 + 1) g w4 HR4.out (by omega)).mono ?_
      rintro e w5 ⟨x5, hx5, rfl, hR5, hC5⟩
      have HR5 := Lib.hid hR5
      have HC5 := Lib.hid (HC4.out.trans hC5)
      have KH5 := Lib.hid (KH4.out.same (hC5.block _ KH4.out.lt (by simp; omega)))
      clear hR5 hC5 hx5
      have k0 : w5.cell? ⟨w.heap.size, 0, none⟩ = some (.int .i64 0) := (KH5.out.cell 0).trans (by simp)
      have k1 : w5.cell? ⟨w.heap.size, 1, none⟩ = some (.int .i64 0) := (KH5.out.cell 1).trans (by simp)
      have f0 := KH5.out.frozen 0
      have f1 := KH5.out.frozen 1
      have KF : Hid (Blk ((w5.setCell ⟨w.heap.size, 0, none⟩ (.int .i64 ((r4 : Int)))).setCell ⟨w.heap.size, 1, none⟩ (.int .i64 (x5))) w.heap.size 37 #[.int .i64 ((r4 : Int)), .int .i64 (x5)]) := (KH5.out.set_ 0 _).set_ 1 _
      have hC5 : Chg [g] w ((w5.setCell ⟨w.heap.size, 0, none⟩ (.int .i64 ((r4 : Int)))).setCell ⟨w.heap.size, 1, none⟩ (.int .i64 (x5))) := (Chg.set_new HC5.out (Nat.le_refl _)).set_new (Nat.le_refl _)
      have hRd : Rd ((w5.setCell ⟨w.heap.size, 0, none⟩ (.int .i64 ((r4 : Int)))).setCell ⟨w.heap.size, 1, none⟩ (.int .i64 (x5))) g (p + 1 + 1 + 1 + 1) := (HR5.out.set hgl).set hgl
      have hfin : DrewTy g p 4 w (.returned (.agg #[.int .i64 ((r4 : Int)), .int .i64 (x5)])) ((w5.setCell ⟨w.heap.size, 0, none⟩ (.int .i64 ((r4 : Int)))).setCell ⟨w.heap.size, 1, none⟩ (.int .i64 (x5))) := ⟨⟨(r4 : Int), x5⟩, p + 1 + 1 + 1 + 1, rfl, hRd, by omega, hC5⟩
      have HFin := Lib.hid hfin
      clear hfin hRd hC5
      go_wp2
      refine bodyPost_ret (results_cell_row rfl _ _ w.heap.size 37 #[.int .i64 ((r4 : Int)), .int .i64 (x5)] (0, 0) _ rfl KF.out Try.underlying37 rfl rfl) rfl ?_
      exact HFin.out
end Go.Proofs.Ytbffkgfhcmigaaa
