/-
  Slices that a call made itself and appends to: what they stand for, and the law of append in these words. Conditions: none.
-/
import Derived.Test.YtddjhneoacnkgaaBase
import Derived.Deep.AppendLies
import Derived.Maps.AppendAt
namespace Go.Proofs.Ytddjhneoacnkgaa
open Go.RowKit

/-- the block that a slice value lies in -/
def rowOf (v : Value) : List Nat := v.ownBlock.toList
theorem mem_rowOf {v : Value} {g : Nat} : g ∈ rowOf v ↔ v.ownBlock = some g := by unfold rowOf; simp [Option.mem_toList]
theorem rowOf_nil : rowOf (.slice none 0 0) = [] := rfl
theorem rowOf_some (g o n c : Nat) : rowOf (.slice (some ⟨g, o, none⟩) n c) = [g] := rfl

/-- v stands for xs, lies in a block of the call's own (from block B on), and F are the blocks that its elements lead to -/
def Own {α : Type} (w : World) (B : Nat) (E : TypeId) (k : Nat) (R : World → α → List Value → List Nat → Prop) (xs : List α) (v : Value) (F : List Nat) : Prop :=
  ∃ cs, w.ownsRow B E k v xs.length cs ∧ Flat (R w) xs cs F ∧ Under w.heap.size F ∧ ∀ g ∈ rowOf v, g ∉ F

section
variable {α : Type} {w w' : World} {B k : Nat} {E : TypeId} {R : World → α → List Value → List Nat → Prop} {xs : List α} {v : Value} {F : List Nat}

theorem Own.nil (w : World) (B : Nat) (E : TypeId) (k : Nat) (R : World → α → List Value → List Nat → Prop) : Own w B E k R ([] : List α) (.slice none 0 0) [] :=
  ⟨[], World.ownsRow_nil w B E k, ⟨rfl, rfl⟩, Under.nil _, fun g h => by simp [rowOf_nil] at h⟩
theorem Own.made (w : World) (B : Nat) (E : TypeId) (k : Nat) (R : World → α → List Value → List Nat → Prop) (cur : Array Value) (cap : Nat) (hB : B ≤ w.heap.size) (hm : cap ≤ maxLen) (hs : cur.size = cap * k) : Own (w.alloc (.cells cur E)) B E k R ([] : List α) (.slice (some ⟨w.heap.size, 0, none⟩) 0 cap) [] :=
  ⟨[], World.ownsRow_made w cur cap hB hm hs, ⟨rfl, rfl⟩, Under.nil _, fun g _ h => by cases h⟩
theorem Own.under (h : Own w B E k R xs v F) : Under w.heap.size F := h.choose_spec.2.2.1
theorem Own.row (h : Own w B E k R xs v F) : ∀ g ∈ rowOf v, B ≤ g ∧ g < w.heap.size := fun g hg => h.choose_spec.1.lt g (mem_rowOf.1 hg)
theorem Own.apart (h : Own w B E k R xs v F) : ∀ g ∈ rowOf v, g ∉ F := h.choose_spec.2.2.2
theorem Own.mono (hR : ∀ x cs G, Kept G w w' → R w x cs G → R w' x cs G) (h : Own w B E k R xs v F) (hk : Kept (rowOf v ++ F) w w') (hs : w.heap.size ≤ w'.heap.size) : Own w' B E k R xs v F := by
  obtain ⟨cs, h1, h2, h3, h4⟩ := h
  refine ⟨cs, ⟨h1.1, ?_⟩, h2.mono fun x _ cs G hG hr => hR x cs G (fun b hb => hk b (List.mem_append.2 (.inr (hG b hb)))) hr, h3.mono hs, h4⟩
  rcases h1.2 with hn | ⟨g, cap, cur, rfl, hb, hg, rest⟩
  · exact .inl hn
  · exact .inr ⟨g, cap, cur, rfl, hb, (hk g (by simp [rowOf_some])).trans hg, rest⟩
theorem Own.below (hR : ∀ x cs G, Kept G w w' → R w x cs G → R w' x cs G) (h : Own w B E k R xs v F) (hb : Below w.heap.size w w') : Own w' B E k R xs v F :=
  h.mono hR (.of_below hb fun b hb' => by
    rcases List.mem_append.1 hb' with h1 | h1
    · exact (h.row b h1).2
    · exact h.under b h1) hb.size
theorem Own.base {B' : Nat} (h : Own w B E k R xs v F) (hB : ∀ g ∈ rowOf v, B' ≤ g) : Own w B' E k R xs v F := by
  obtain ⟨cs, h1, h2, h3, h4⟩ := h
  refine ⟨cs, ⟨h1.1, ?_⟩, h2, h3, h4⟩
  rcases h1.2 with hn | ⟨g, cap, cur, rfl, hb, hg, rest⟩
  · exact .inl hn
  · exact .inr ⟨g, cap, cur, rfl, hB g (by simp [rowOf_some]), hg, rest⟩
theorem Own.form (h : Own w B E k R xs v F) : ∃ A cap, v = .slice A xs.length cap ∧ xs.length ≤ cap ∧ cap ≤ 9223372036854775807 := by
  obtain ⟨cs, h1, -⟩ := h
  rcases h1.2 with ⟨rfl, hn⟩ | ⟨g, cap, cur, rfl, hb, hg, hc, hm, -⟩
  · exact ⟨none, 0, by rw [hn], by omega, by omega⟩
  · exact ⟨_, cap, rfl, hc, by unfold maxLen at hm; omega⟩
theorem cellsAt_ownsRow {w : World} {B k n g cap : Nat} {E : TypeId} {cs : List Value} (h : w.ownsRow B E k (.slice (some ⟨g, 0, none⟩) n cap) n cs) : CellsAt w g 0 cs := fun j u hj => by
  have := h.cells (g := g) rfl j u hj
  rw [Addr.add_lit] at this
  exact this
theorem Own.arr (h : Own w B E k R xs v F) : Arr w (R w) xs v (if xs = [] then [] else rowOf v ++ F) := by
  obtain ⟨A, cap, rfl, hc, hm⟩ := h.form
  refine ⟨A, cap, rfl, hc, by unfold maxLen; omega, ?_⟩
  by_cases hx : xs = []
  · exact .inl ⟨hx, if_pos hx⟩
  · rw [if_neg hx]
    obtain ⟨cs, h1, h2, h3, h4⟩ := h
    rcases h1.2 with ⟨hv, hn⟩ | ⟨g, cap', cur, hv, hb, hg, hc', hm', -⟩
    · exact absurd (List.length_eq_zero_iff.1 hn) hx
    · cases hv
      exact .inr ⟨g, 0, cs, F, rfl, cellsAt_ownsRow h1, h2, rfl⟩
/-- what the finished slice is to its receiver -/
theorem Own.free (h : Own w B E k R xs v F) (hF : Free w F) : Free w (if xs = [] then [] else rowOf v ++ F) := by
  by_cases hx : xs = []
  · rw [if_pos hx]; exact Free.nil _
  · rw [if_neg hx]
    obtain ⟨cs, h1, h2, h3, h4⟩ := h
    rcases h1.2 with ⟨hv, hn⟩ | ⟨g, cap', cur, rfl, hb, hg, hc', hm', -⟩
    · exact absurd (List.length_eq_zero_iff.1 hn) hx
    · rw [rowOf_some]
      exact ⟨List.nodup_cons.2 ⟨h4 g (by simp [rowOf_some]), hF.1⟩, fun b hb' i => by
        rcases List.mem_cons.1 hb' with rfl | hb'
        · simp [World.frozen?, hg]
        · exact hF.2 b hb' i⟩
theorem Own.fresh {w0 : World} (h : Own w B E k R xs v F) (hB : w0.heap.size ≤ B) (hF : ∀ b ∈ F, w0.heap.size ≤ b) : Fresh w0 w (if xs = [] then [] else rowOf v ++ F) := fun b hb => by
  by_cases hx : xs = []
  · rw [if_pos hx] at hb; cases hb
  · rw [if_neg hx] at hb
    rcases List.mem_append.1 hb with h1 | h1
    · exact ⟨Nat.le_trans hB (h.row b h1).1, (h.row b h1).2⟩
    · exact ⟨hF b h1, h.under b h1⟩

theorem grown_below {w w' : World} {v : Value} {B : Nat} (hg : w.grownBy w' v.ownBlock) (hB : B ≤ w.heap.size) (hr : ∀ g ∈ rowOf v, B ≤ g) : Below B w w' :=
  (Below.refl B w).grown hg hB fun k hk => hr k (mem_rowOf.2 hk)
theorem grown_kept {w w' : World} {v : Value} {G : List Nat} (hg : w.grownBy w' v.ownBlock) (hG : Under w.heap.size G) (hn : ∀ g ∈ rowOf v, g ∉ G) : Kept G w w' := fun b hb =>
  hg.block b (hG b hb) fun e => hn b (mem_rowOf.2 e.symm) hb

variable {P : Program}
theorem wpList_push {ops : Array Oper} {rest : List Oper} {o : Oper} {a : Act} {Q : Exit → Act → World → Prop} (hgd : o.guard = none) (s x : Operand) (t : TypeId)
    (ho : o.op = .call { callee := .builtin .append, args := #[s, x], argTypes := #[t, t] })
    (i : TypeInfo) (z : Value) (bytes : Nat) (ht : P.underlying t = some (.slice E)) (hi : P.info? E = some i) (hz : i.zero = some z)
    (hsize : i.size = k) (hby : i.bytes = bytes) (hzs : z.cells.size = k) (hk : 0 < k)
    (hRl : ∀ x cs G, R w x cs G → cs.length = k) (hRm : ∀ w' x cs G, Kept G w w' → R w x cs G → R w' x cs G)
    (hs : a.eval s = v) (hown : Own w B E k R xs v F) (ys : List α) (ad : Addr) (c : Nat) (news : List Value) (G : List Nat)
    (hx : a.eval x = .slice (some ad) ys.length c) (hnews : ∀ j u, news[j]? = some u → w.cell? (ad.add j) = some u) (h1 : ∀ u ∈ news, u.oneCell' = true)
    (hys : Flat (R w) ys news G) (hG : Under w.heap.size G) (hvG : ∀ g ∈ rowOf v, g ∉ G)
    (hm : 0 < ys.length) (h63 : xs.length + ys.length ≤ maxLen) (hbytes : (xs.length + ys.length) * bytes ≤ 140737488355328) (hbase : B ≤ w.heap.size)
    (h : ∀ g cap w', Own w' B E k R (xs ++ ys) (.slice (some ⟨g, 0, none⟩) (xs.length + ys.length) cap) (F ++ G) → w.grownBy w' v.ownBlock → (v.ownBlock = some g ∨ g = w.heap.size) →
      wpList P ops Q rest (a.put o.dst (.slice (some ⟨g, 0, none⟩) (xs.length + ys.length) cap)) w') : wpList P ops Q (o :: rest) a w := by
  obtain ⟨cs, h2, h3, h4, h5⟩ := id hown
  refine wpList_append_lies w hgd s x t ho B E i z k bytes ht hi hz hsize hby hzs hk v xs.length cs hs h2 ad ys.length c news hx (hys.length hRl) hnews h1 hm h63 hbytes hbase w.heap.size rfl
    fun g cap w1 hr hgr hat hlt => h g cap w1 ⟨cs ++ news, by rw [List.length_append]; exact hr, ?_, ?_, ?_⟩ hgr hat
  · exact (h3.mono fun x _ ds H hH hr => hRm w1 x ds H (grown_kept hgr (h4.sub hH) fun g hg hn => h5 g hg (hH g hn)) hr).append (hys.mono fun x _ ds H hH hr => hRm w1 x ds H (grown_kept hgr (hG.sub hH) fun g hg hn => hvG g hg (hH g hn)) hr)
  · intro b hb
    rcases List.mem_append.1 hb with hb | hb
    · exact Nat.lt_of_lt_of_le (h4 b hb) hgr.size
    · exact Nat.lt_of_lt_of_le (hG b hb) hgr.size
  · intro b hb hbF
    rw [rowOf_some, List.mem_singleton] at hb
    subst hb
    rcases hat with hat | rfl
    · rcases List.mem_append.1 hbF with hb | hb
      · exact h5 b (mem_rowOf.2 hat) hb
      · exact hvG b (mem_rowOf.2 hat) hb
    · rcases List.mem_append.1 hbF with hb | hb
      · exact Nat.lt_irrefl _ (h4 _ hb)
      · exact Nat.lt_irrefl _ (hG _ hb)

/-- one element, which the walk has laid into a block of its own before (the world was wb) -/
theorem wpList_push1 {ops : Array Oper} {rest : List Oper} {o : Oper} {a : Act} {Q : Exit → Act → World → Prop} (hgd : o.guard = none) (s x : Operand) (t : TypeId)
    (ho : o.op = .call { callee := .builtin .append, args := #[s, x], argTypes := #[t, t] })
    (i : TypeInfo) (z : Value) (bytes : Nat) (ht : P.underlying t = some (.slice E)) (hi : P.info? E = some i) (hz : i.zero = some z)
    (hsize : i.size = k) (hby : i.bytes = bytes) (hzs : z.cells.size = k) (hk : 0 < k)
    (hRl : ∀ w x cs G, R w x cs G → cs.length = k) (hRm : ∀ w w' x cs G, Kept G w w' → R w x cs G → R w' x cs G)
    (hs : a.eval s = v) (hown : Own w B E k R xs v F) (y : α) (ad : Addr) (T : TypeId) (c : Nat) (news : List Value) (G : List Nat)
    (hx : a.eval x = .slice (some ad) 1 c) (hblk : Blk w ad.block T news.toArray) (had : ad = ⟨ad.block, 0, none⟩) (h1 : ∀ u ∈ news, u.oneCell' = true)
    (hy : R w y news G) (hG : Under w.heap.size G) (hvG : ∀ g ∈ rowOf v, g ∉ G)
    (h63 : xs.length + 1 ≤ maxLen) (hbytes : (xs.length + 1) * bytes ≤ 140737488355328) (hbase : B ≤ w.heap.size)
    (h : ∀ g cap w', Own w' B E k R (xs ++ [y]) (.slice (some ⟨g, 0, none⟩) (xs.length + 1) cap) (F ++ G) → w.grownBy w' v.ownBlock → (v.ownBlock = some g ∨ g = w.heap.size) →
      wpList P ops Q rest (a.put o.dst (.slice (some ⟨g, 0, none⟩) (xs.length + 1) cap)) w') : wpList P ops Q (o :: rest) a w := by
  refine wpList_push hgd s x t ho i z bytes ht hi hz hsize hby hzs hk (hRl w) (fun w' => hRm w w') hs hown [y] ad c news G hx ?_ h1 (Flat.one hy) hG hvG (Nat.zero_lt_one) h63 hbytes hbase h
  have hb : w.heap[ad.block]? = some (.cells news.toArray T (0, 0)) := hblk
  rw [had]
  intro j u hj
  exact World.news_of_block hb j u (by simpa using hj)
end

/-! ### Slices of numbers and of strings -/
def NatR (_ : World) (x : Int) (cs : List Value) (F : List Nat) : Prop := cs = [.int .i64 x] ∧ F = []
theorem NatR_len (w : World) (x : Int) (cs : List Value) (F : List Nat) (h : NatR w x cs F) : cs.length = 1 := by rw [h.1]; rfl
theorem NatR_mono (w w' : World) (x : Int) (cs : List Value) (F : List Nat) (_ : Kept F w w') (h : NatR w x cs F) : NatR w' x cs F := h
def StrR (_ : World) (x : ByteArray) (cs : List Value) (F : List Nat) : Prop := cs = [.string x] ∧ F = []
theorem StrR_len (w : World) (x : ByteArray) (cs : List Value) (F : List Nat) (h : StrR w x cs F) : cs.length = 1 := by rw [h.1]; rfl
theorem StrR_mono (w w' : World) (x : ByteArray) (cs : List Value) (F : List Nat) (_ : Kept F w w') (h : StrR w x cs F) : StrR w' x cs F := h

/-- a call gives a slice of its own that stands for xs -/
def MadeArr {α : Type} (R : World → α → List Value → List Nat → Prop) (w : World) (xs : List α) (e : Ending) (w' : World) : Prop :=
  ∃ v F, e = .returned v ∧ Below w.heap.size w w' ∧ Arr w' (R w') xs v F ∧ Free w' F ∧ Fresh w w' F
theorem Flat.nilF {α : Type} {R : α → List Value → List Nat → Prop} (hR : ∀ x cs F, R x cs F → F = []) : ∀ {xs : List α} {c : List Value} {F : List Nat}, Flat R xs c F → F = []
  | [], _, _, h => h.2
  | x :: xs, c, F, h => by
    obtain ⟨c1, c2, F1, F2, rfl, rfl, h1, h2⟩ := h
    rw [hR _ _ _ h1, Flat.nilF hR h2]; rfl
theorem Own.nilF {α : Type} {w : World} {B k : Nat} {E : TypeId} {R : World → α → List Value → List Nat → Prop} {xs : List α} {v : Value} {F : List Nat} (hR : ∀ w x cs F, R w x cs F → F = []) (h : Own w B E k R xs v F) : F = [] := by
  obtain ⟨cs, -, h2, -⟩ := h
  exact h2.nilF (hR w)
theorem Own.gives {α : Type} {w0 w : World} {B k : Nat} {E : TypeId} {R : World → α → List Value → List Nat → Prop} {xs : List α} {v : Value} {F : List Nat} (h : Own w B E k R xs v F) (hb : Below w0.heap.size w0 w) (hB : w0.heap.size ≤ B) (hF : ∀ b ∈ F, w0.heap.size ≤ b) (hfr : Free w F) : MadeArr R w0 xs (.returned v) w :=
  ⟨v, _, rfl, hb, h.arr, h.free hfr, h.fresh hB hF⟩
end Go.Proofs.Ytddjhneoacnkgaa
