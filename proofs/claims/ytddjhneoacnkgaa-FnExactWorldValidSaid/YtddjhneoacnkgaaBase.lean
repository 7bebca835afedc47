/-
  Plain definitions: the data of the program (types, constructors, worlds, values, patterns) as Lean data, and how they lie in memory. Conditions: none.
-/
import Derived.WalkKit
import Derived.WalkSpells
import Derived.WalkLawsBesides
import Derived.Lib.Hide
import Derived.Deep.Draws
import Derived.Laws.OwnMore
namespace Go.Proofs.Ytddjhneoacnkgaa
open Go.RowKit

/-! ### Names -/
def lowerAll (l : List UInt8) : Bool := l.all fun c => 97 ≤ c && c ≤ 122
def nameOk : List UInt8 → Bool
  | [] => false
  | c :: l => decide (l.length ≤ 4) && (65 ≤ c && c ≤ 90) && lowerAll l

theorem lowerAll_append (l m : List UInt8) : lowerAll (l ++ m) = (lowerAll l && lowerAll m) := by simp [lowerAll]
theorem lowerAll_one (c : UInt8) : lowerAll [c] = (decide (97 ≤ c.toNat) && decide (c.toNat ≤ 122)) := by
  simp only [lowerAll, List.all_cons, List.all_nil, Bool.and_true]
  rw [Bool.eq_iff_iff]; simp [UInt8.le_iff_toNat_le]
theorem nameOk_cons (c : UInt8) (l : List UInt8) : nameOk (c :: l) = (decide (l.length ≤ 4) && (decide (65 ≤ c.toNat) && decide (c.toNat ≤ 90)) && lowerAll l) := by
  simp only [nameOk]
  rw [Bool.eq_iff_iff]; simp [UInt8.le_iff_toNat_le]

/-! ### Footprints: the blocks that a datum lies in -/
def Kept (F : List Nat) (w w' : World) : Prop := ∀ b ∈ F, w'.heap[b]? = w.heap[b]?
def Under (n : Nat) (F : List Nat) : Prop := ∀ b ∈ F, b < n
def Fresh (w w' : World) (F : List Nat) : Prop := ∀ b ∈ F, w.heap.size ≤ b ∧ b < w'.heap.size
def Free (w : World) (F : List Nat) : Prop := F.Nodup ∧ ∀ b ∈ F, ∀ i, w.frozen? ⟨b, i, none⟩ = false

theorem Kept.left {F G : List Nat} {w w' : World} (h : Kept (F ++ G) w w') : Kept F w w' := fun b hb => h b (List.mem_append.2 (.inl hb))
theorem Kept.right {F G : List Nat} {w w' : World} (h : Kept (F ++ G) w w') : Kept G w w' := fun b hb => h b (List.mem_append.2 (.inr hb))
theorem Kept.of_below {F : List Nat} {w w' : World} {B : Nat} (h : Below B w w') (hF : Under B F) : Kept F w w' := fun b hb => h.block b (hF b hb)
theorem Under.mono {n m : Nat} {F : List Nat} (h : Under n F) (hm : n ≤ m) : Under m F := fun b hb => Nat.lt_of_lt_of_le (h b hb) hm
theorem Under.drew {w : World} {F : List Nat} (h : Under w.heap.size F) : Under w.drew.heap.size F := h
theorem Under.nil (n : Nat) : Under n [] := fun b hb => by cases hb
theorem Under.sub {n : Nat} {F G : List Nat} (h : Under n F) (hs : ∀ b ∈ G, b ∈ F) : Under n G := fun b hb => h b (hs b hb)
theorem Under.left {n : Nat} {F G : List Nat} (h : Under n (F ++ G)) : Under n F := fun b hb => h b (List.mem_append.2 (.inl hb))
theorem Under.right {n : Nat} {F G : List Nat} (h : Under n (F ++ G)) : Under n G := fun b hb => h b (List.mem_append.2 (.inr hb))
theorem Fresh.under {w w' : World} {F : List Nat} (h : Fresh w w' F) : Under w'.heap.size F := fun b hb => (h b hb).2
theorem Fresh.nil (w w' : World) : Fresh w w' [] := fun b hb => by cases hb
theorem Free.nil (w : World) : Free w [] := ⟨List.nodup_nil, fun b hb => by cases hb⟩
theorem Free.kept {w w' : World} {F : List Nat} (h : Free w F) (hk : Kept F w w') : Free w' F :=
  ⟨h.1, fun b hb i => (World.frozen?_of_block (w := w) (a := ⟨b, i, none⟩) (hk b hb)).trans (h.2 b hb i)⟩

/-! ### Rows of elements of several cells -/
def CellsAt (w : World) (b off : Nat) (cs : List Value) : Prop := ∀ j u, cs[j]? = some u → w.cell? ⟨b, off + j, none⟩ = some u

theorem CellsAt.same {w w' : World} {b off : Nat} {cs : List Value} (h : CellsAt w b off cs) (e : w'.heap[b]? = w.heap[b]?) : CellsAt w' b off cs :=
  fun j u hj => (World.cell?_of_block (a := ⟨b, off + j, none⟩) e).trans (h j u hj)
theorem CellsAt.left {w : World} {b off : Nat} {c d : List Value} (h : CellsAt w b off (c ++ d)) : CellsAt w b off c :=
  fun j u hj => h j u (by rw [List.getElem?_append_left (List.getElem?_eq_some_iff.1 hj).1]; exact hj)
theorem CellsAt.right {w : World} {b off : Nat} {c d : List Value} (h : CellsAt w b off (c ++ d)) : CellsAt w b (off + c.length) d :=
  fun j u hj => by
    have := h (c.length + j) u (by rw [List.getElem?_append_right (by omega)]; simpa using hj)
    rwa [← Nat.add_assoc] at this
theorem CellsAt.append {w : World} {b off : Nat} {c d : List Value} (h : CellsAt w b off c) (h' : CellsAt w b (off + c.length) d) : CellsAt w b off (c ++ d) :=
  fun j u hj => by
    rcases Nat.lt_or_ge j c.length with hl | hl
    · exact h j u (by rwa [List.getElem?_append_left hl] at hj)
    · have := h' (j - c.length) u (by rwa [List.getElem?_append_right hl] at hj)
      rwa [show off + c.length + (j - c.length) = off + j by omega] at this

/-- the cells of a list of elements one behind the other, with the blocks they lead to -/
def Flat {α : Type} (R : α → List Value → List Nat → Prop) : List α → List Value → List Nat → Prop
  | [], cs, F => cs = [] ∧ F = []
  | x :: xs, cs, F => ∃ c1 c2 F1 F2, cs = c1 ++ c2 ∧ F = F1 ++ F2 ∧ R x c1 F1 ∧ Flat R xs c2 F2

theorem Flat.append {α : Type} {R : α → List Value → List Nat → Prop} : ∀ {xs ys : List α} {c d : List Value} {F G : List Nat}, Flat R xs c F → Flat R ys d G → Flat R (xs ++ ys) (c ++ d) (F ++ G)
  | [], ys, c, d, F, G, h, h' => by obtain ⟨rfl, rfl⟩ := h; exact h'
  | x :: xs, ys, c, d, F, G, h, h' => by
    obtain ⟨c1, c2, F1, F2, rfl, rfl, h1, h2⟩ := h
    exact ⟨c1, c2 ++ d, F1, F2 ++ G, by simp, by simp, h1, h2.append h'⟩
theorem Flat.one {α : Type} {R : α → List Value → List Nat → Prop} {x : α} {c : List Value} {F : List Nat} (h : R x c F) : Flat R [x] c F := ⟨c, [], F, [], by simp, by simp, h, rfl, rfl⟩
theorem Flat.split {α : Type} {R : α → List Value → List Nat → Prop} : ∀ (xs : List α) {ys : List α} {c : List Value} {F : List Nat}, Flat R (xs ++ ys) c F → ∃ c1 c2 F1 F2, c = c1 ++ c2 ∧ F = F1 ++ F2 ∧ Flat R xs c1 F1 ∧ Flat R ys c2 F2
  | [], ys, c, F, h => ⟨[], c, [], F, rfl, rfl, ⟨rfl, rfl⟩, h⟩
  | x :: xs, ys, c, F, h => by
    obtain ⟨c1, c2, F1, F2, rfl, rfl, h1, h2⟩ := h
    obtain ⟨d1, d2, G1, G2, rfl, rfl, h3, h4⟩ := Flat.split xs h2
    exact ⟨c1 ++ d1, d2, F1 ++ G1, G2, by simp, by simp, ⟨c1, d1, F1, G1, rfl, rfl, h1, h3⟩, h4⟩
theorem Flat.mono {α : Type} {R R' : α → List Value → List Nat → Prop} : ∀ {xs : List α} {c : List Value} {F : List Nat}, Flat R xs c F → (∀ x ∈ xs, ∀ cs G, (∀ b ∈ G, b ∈ F) → R x cs G → R' x cs G) → Flat R' xs c F
  | [], c, F, h, _ => h
  | x :: xs, c, F, h, hR => by
    obtain ⟨c1, c2, F1, F2, rfl, rfl, h1, h2⟩ := h
    exact ⟨c1, c2, F1, F2, rfl, rfl, hR x (by simp) _ _ (fun b hb => List.mem_append.2 (.inl hb)) h1, h2.mono fun y hy cs G hG h => hR y (by simp [hy]) cs G (fun b hb => List.mem_append.2 (.inr (hG b hb))) h⟩
theorem Flat.length {α : Type} {R : α → List Value → List Nat → Prop} {k : Nat} (hk : ∀ x cs F, R x cs F → cs.length = k) : ∀ {xs : List α} {c : List Value} {F : List Nat}, Flat R xs c F → c.length = xs.length * k
  | [], c, F, h => by obtain ⟨rfl, -⟩ := h; simp
  | x :: xs, c, F, h => by
    obtain ⟨c1, c2, F1, F2, rfl, rfl, h1, h2⟩ := h
    have := h2.length hk
    have := hk _ _ _ h1
    simp only [List.length_append, List.length_cons, Nat.add_mul]
    omega
theorem Flat.get {α : Type} {R : α → List Value → List Nat → Prop} {k : Nat} (hk : ∀ x cs F, R x cs F → cs.length = k) {w : World} {b off : Nat} : ∀ {xs : List α} {c : List Value} {F : List Nat} {off : Nat}, Flat R xs c F → CellsAt w b off c →
    ∀ {i : Nat} {x : α}, xs[i]? = some x → ∃ cs G, CellsAt w b (off + i * k) cs ∧ R x cs G ∧ ∀ b ∈ G, b ∈ F
  | [], c, F, off, _, _, i, x, hi => by simp at hi
  | y :: xs, c, F, off, h, hc, i, x, hi => by
    obtain ⟨c1, c2, F1, F2, rfl, rfl, h1, h2⟩ := h
    cases i with
    | zero =>
      simp at hi
      subst hi
      exact ⟨c1, F1, by simpa using hc.left, h1, fun b hb => List.mem_append.2 (.inl hb)⟩
    | succ i =>
      have hc2 := hc.right
      rw [hk _ _ _ h1] at hc2
      obtain ⟨cs, G, a, b, d⟩ := Flat.get (off := off) hk h2 hc2 (by simpa using hi)
      exact ⟨cs, G, by rwa [show off + (i + 1) * k = off + k + i * k by rw [Nat.add_mul]; omega], b, fun b hb => List.mem_append.2 (.inr (d b hb))⟩

/-- the slice value v stands for the list xs -/
def Arr {α : Type} (w : World) (R : α → List Value → List Nat → Prop) (xs : List α) (v : Value) (F : List Nat) : Prop :=
  ∃ A cap, v = .slice A xs.length cap ∧ xs.length ≤ cap ∧ cap ≤ maxLen ∧
    ((xs = [] ∧ F = []) ∨ ∃ b off cs G, A = some ⟨b, off, none⟩ ∧ CellsAt w b off cs ∧ Flat R xs cs G ∧ F = b :: G)

theorem Arr.nil {α : Type} {w : World} {R : α → List Value → List Nat → Prop} : Arr w R [] (.slice none 0 0) [] := ⟨none, 0, rfl, by simp, by simp [maxLen], .inl ⟨rfl, rfl⟩⟩

theorem Arr.mono {α : Type} {w w' : World} {R R' : α → List Value → List Nat → Prop} {xs : List α} {v : Value} {F : List Nat} (h : Arr w R xs v F)
    (hF : Kept F w w') (hR : ∀ x ∈ xs, ∀ cs G, Kept G w w' → R x cs G → R' x cs G) : Arr w' R' xs v F := by
  obtain ⟨A, cap, rfl, h1, h2, h3⟩ := h
  refine ⟨A, cap, rfl, h1, h2, ?_⟩
  rcases h3 with h3 | ⟨b, off, cs, G, rfl, hc, hf, rfl⟩
  · exact .inl h3
  · exact .inr ⟨b, off, cs, G, rfl, hc.same (hF b (by simp)), hf.mono fun x hx cs H hH hr => hR x hx cs H (fun b hb => hF b (by simp [hH b hb])) hr, rfl⟩

/-- the i-th element -/
theorem Arr.get {α : Type} {w : World} {R : α → List Value → List Nat → Prop} {k : Nat} (hk : ∀ x cs F, R x cs F → cs.length = k) {xs : List α} {A : Option Addr} {n cap : Nat} {F : List Nat} (h : Arr w R xs (.slice A n cap) F) {i : Nat} (hi : i < xs.length) :
    ∃ b off cs G, A = some ⟨b, off, none⟩ ∧ b ∈ F ∧ CellsAt w b (off + i * k) cs ∧ R xs[i] cs G ∧ ∀ b ∈ G, b ∈ F := by
  obtain ⟨A', cap', hv, h1, h2, h3⟩ := h
  cases hv
  rcases h3 with ⟨rfl, -⟩ | ⟨b, off, cs, G, rfl, hc, hf, rfl⟩
  · simp at hi
  · obtain ⟨ds, H, a, r, d⟩ := hf.get (off := off) hk hc (List.getElem?_eq_getElem hi)
    exact ⟨b, off, ds, H, rfl, by simp, a, r, fun b hb => by simp [d b hb]⟩

theorem Arr.form {α : Type} {w : World} {R : α → List Value → List Nat → Prop} {xs : List α} {v : Value} {F : List Nat} (h : Arr w R xs v F) : ∃ A cap, v = .slice A xs.length cap ∧ xs.length ≤ cap ∧ cap ≤ 9223372036854775807 := by
  obtain ⟨A, cap, rfl, h1, h2, -⟩ := h
  exact ⟨A, cap, rfl, h1, by unfold maxLen at h2; omega⟩

/-! ### A block that is known whole -/
def Blk (w : World) (g : Nat) (t : TypeId) (C : Array Value) : Prop := w.heap[g]? = some (.cells C t (0, 0))

theorem Blk.lt {w : World} {g : Nat} {t : TypeId} {C : Array Value} (h : Blk w g t C) : g < w.heap.size := by
  rcases Nat.lt_or_ge g w.heap.size with hlt | hge
  · exact hlt
  · unfold Blk at h; rw [Array.getElem?_eq_none hge] at h; cases h
theorem Blk.cell {w : World} {g : Nat} {t : TypeId} {C : Array Value} (h : Blk w g t C) (i : Nat) : w.cell? ⟨g, i, none⟩ = C[i]? := cell_of_row w g i C t (0, 0) h
theorem Blk.frozen {w : World} {g : Nat} {t : TypeId} {C : Array Value} (h : Blk w g t C) (i : Nat) : w.frozen? ⟨g, i, none⟩ = false := by
  unfold Blk at h
  simp [World.frozen?, h]
theorem Blk.new (w : World) (t : TypeId) (C : Array Value) : Blk (w.alloc (.cells C t)) w.heap.size t C := heap_alloc_new w _
theorem Blk.same {w w' : World} {g : Nat} {t : TypeId} {C : Array Value} (h : Blk w g t C) (e : w'.heap[g]? = w.heap[g]?) : Blk w' g t C := e.trans h
theorem Blk.set_ {w : World} {g : Nat} {t : TypeId} {C : Array Value} (h : Blk w g t C) (i : Nat) (u : Value) : Blk (w.setCell ⟨g, i, none⟩ u) g t (C.setIfInBounds i u) := by
  unfold Blk at h ⊢
  simp [World.setCell, Array.getElem?_modify, h]

/-- cells written one behind the other into block g -/
def putCells (w : World) (g : Nat) : Nat → List Value → World
  | _, [] => w
  | i, c :: cs => putCells (w.setCell ⟨g, i, none⟩ c) g (i + 1) cs

theorem putCells_grown (g : Nat) : ∀ (cs : List Value) (w : World) (i : Nat), w.grownBy (putCells w g i cs) (some g) ∧ (putCells w g i cs).heap.size = w.heap.size
  | [], w, _ => ⟨⟨rfl, rfl, rfl, Nat.le_refl _, fun _ _ _ => rfl⟩, rfl⟩
  | c :: cs, w, i => by
    obtain ⟨h, hs⟩ := putCells_grown g cs (w.setCell ⟨g, i, none⟩ c) (i + 1)
    have es : (w.setCell ⟨g, i, none⟩ c).heap.size = w.heap.size := by simp [World.setCell]
    simp only [putCells]
    exact ⟨⟨h.os, h.tape, h.output, by rw [hs, es]; exact Nat.le_refl _, fun k hk hne => (h.block k (by rw [es]; exact hk) hne).trans (Below.heap_setCell _ _ _ _ (fun e => hne (by rw [e])))⟩, by rw [hs, es]⟩

theorem Blk.put {g : Nat} {t : TypeId} : ∀ (cs : List Value) {w : World} {C : Array Value} (i : Nat), Blk w g t C → i + cs.length ≤ C.size →
    ∃ C', Blk (putCells w g i cs) g t C' ∧ C'.size = C.size ∧ (∀ j, j < cs.length → C'[i + j]? = cs[j]?) ∧ ∀ j, j < i ∨ i + cs.length ≤ j → C'[j]? = C[j]?
  | [], w, C, i, h, _ => ⟨C, h, rfl, fun j hj => by simp at hj, fun _ _ => rfl⟩
  | c :: cs, w, C, i, h, hi => by
    simp only [List.length_cons] at hi
    obtain ⟨C', h1, h2, h3, h4⟩ := Blk.put cs (i + 1) (h.set_ i c) (by simp; omega)
    refine ⟨C', h1, by simpa using h2, fun j hj => ?_, fun j hj => ?_⟩
    · cases j with
      | zero =>
        rw [Nat.add_zero, h4 i (.inl (by omega))]
        simp [Array.getElem?_setIfInBounds, show i < C.size by omega]
      | succ j =>
        have := h3 j (by simpa using hj)
        rwa [show i + 1 + j = i + (j + 1) by omega] at this
    · simp only [List.length_cons] at hj
      rw [h4 j (by omega)]
      rw [Array.getElem?_setIfInBounds, if_neg (by omega)]

/-- a block of n elements of k cells, of which the first stand for the list xs -/
def Row {α : Type} (w : World) (g : Nat) (t : TypeId) (k n : Nat) (R : α → List Value → List Nat → Prop) (xs : List α) (F : List Nat) : Prop :=
  (∃ C : Array Value, Blk w g t C ∧ C.size = n * k) ∧ xs.length ≤ n ∧ ∃ cs, CellsAt w g 0 cs ∧ Flat R xs cs F

theorem Row.mono {α : Type} {w w' : World} {g k n : Nat} {t : TypeId} {R R' : α → List Value → List Nat → Prop} {xs : List α} {F : List Nat} (h : Row w g t k n R xs F) (e : w'.heap[g]? = w.heap[g]?) (hF : Kept F w w') (hR : ∀ x ∈ xs, ∀ cs G, Kept G w w' → R x cs G → R' x cs G) : Row w' g t k n R' xs F := by
  obtain ⟨⟨C, h1, h2⟩, h3, cs, h4, h5⟩ := h
  exact ⟨⟨C, h1.same e, h2⟩, h3, cs, h4.same e, h5.mono fun x hx cs G hG hr => hR x hx cs G (fun b hb => hF b (hG b hb)) hr⟩

theorem Row.old {α : Type} {w : World} {g k n : Nat} {t : TypeId} {R : α → List Value → List Nat → Prop} {xs : List α} {F : List Nat} (h : Row w g t k n R xs F) (j : Nat) (hj : j < n * k) : (∃ u, w.cell? ⟨g, j, none⟩ = some u) ∧ w.frozen? ⟨g, j, none⟩ = false := by
  obtain ⟨⟨C, h1, h2⟩, -⟩ := h
  exact ⟨⟨C[j], by rw [h1.cell, Array.getElem?_eq_getElem (by omega)]⟩, h1.frozen j⟩

theorem Row.lt {α : Type} {w : World} {g k n : Nat} {t : TypeId} {R : α → List Value → List Nat → Prop} {xs : List α} {F : List Nat} (h : Row w g t k n R xs F) : g < w.heap.size := h.1.choose_spec.1.lt

/-- one element more is stored behind those that stand there -/
theorem Row.store {α : Type} {w : World} {g k n : Nat} {t : TypeId} {R R' : α → List Value → List Nat → Prop} {xs : List α} {x : α} {cs : List Value} {F G : List Nat} (hR : ∀ x cs F, R x cs F → cs.length = k) (h : Row w g t k n R xs F) (hk : cs.length = k) (hlt : xs.length < n) (hg : g ∉ F)
    (hm : ∀ x ∈ xs, ∀ ds H, Kept H w (putCells w g (xs.length * k) cs) → R x ds H → R' x ds H) (hx : R' x cs G) :
    Row (putCells w g (xs.length * k) cs) g t k n R' (xs ++ [x]) (F ++ G) := by
  obtain ⟨⟨C, h1, h2⟩, h3, ds, h4, h5⟩ := h
  have hroom : xs.length * k + cs.length ≤ C.size := by
    rw [h2, hk]
    have := Nat.mul_le_mul_right k (show xs.length + 1 ≤ n by omega)
    rw [Nat.add_mul] at this
    omega
  have hgr := (putCells_grown g cs w (xs.length * k)).1
  have hdl := h5.length hR
  have hF : Kept F w (putCells w g (xs.length * k) cs) := fun b hb => by
    rcases Nat.lt_or_ge b w.heap.size with hl | hl
    · exact hgr.block b hl (fun e => by cases e; exact hg hb)
    · rw [Array.getElem?_eq_none hl, Array.getElem?_eq_none (by rw [(putCells_grown g cs w _).2]; exact hl)]
  obtain ⟨C', g1, g2, g3, g4⟩ := Blk.put cs (xs.length * k) h1 hroom
  refine ⟨⟨C', g1, g2.trans h2⟩, by simp; omega, ds ++ cs, CellsAt.append (fun j u hj => ?_) (fun j u hj => ?_), (h5.mono fun y hy es H hH hr => hm y hy es H (fun b hb => hF b (hH b hb)) hr).append (Flat.one hx)⟩
  · have hjl := (List.getElem?_eq_some_iff.1 hj).1
    have := h4 j u hj
    rw [g1.cell, g4 _ (.inl (by omega)), ← h1.cell]
    exact this
  · have hjl := (List.getElem?_eq_some_iff.1 hj).1
    rw [g1.cell, hdl, Nat.zero_add, g3 j hjl]
    exact hj

theorem Row.arr {α : Type} {w : World} {g k n : Nat} {t : TypeId} {R : α → List Value → List Nat → Prop} {xs : List α} {F : List Nat} (h : Row w g t k n R xs F) (hl : xs.length = n) (hm : n ≤ maxLen) : ∃ G, Arr w R xs (.slice (some ⟨g, 0, none⟩) n n) G ∧ (G = g :: F ∨ G = []) := by
  subst hl
  obtain ⟨⟨C, h1, h2⟩, h3, cs, h4, h5⟩ := h
  exact ⟨g :: F, ⟨_, _, rfl, Nat.le_refl _, hm, .inr ⟨g, 0, cs, F, rfl, h4, h5, rfl⟩⟩, .inl rfl⟩

theorem Row.made {α : Type} (w : World) (t : TypeId) (k n : Nat) (z : Array Value) (R : α → List Value → List Nat → Prop) : Row (w.alloc (.cells (madeCells z (n * k)) t)) w.heap.size t k n R ([] : List α) [] :=
  ⟨⟨_, Blk.new w t _, by simp [madeCells]⟩, by simp, [], fun j u h => by simp at h, rfl, rfl⟩

theorem Row.free {α : Type} {w : World} {g k n : Nat} {t : TypeId} {R : α → List Value → List Nat → Prop} {xs : List α} {F : List Nat} (h : Row w g t k n R xs F) (hF : Free w F) (hg : g ∉ F) : Free w (g :: F) := by
  obtain ⟨⟨C, h1, -⟩, -⟩ := h
  exact ⟨List.nodup_cons.2 ⟨hg, hF.1⟩, fun b hb i => by
    rcases List.mem_cons.1 hb with rfl | hb
    · exact h1.frozen i
    · exact hF.2 b hb i⟩

/-! ### make -/
theorem run_make_rowN {P : Program} (t e : TypeId) (i : TypeInfo) (z : Value) (ht : P.underlying t = some (.slice e)) (hi : P.info? e = some i) (hz : i.zero = some z)
    (kl kc : IntKind) (n c : Nat) (hnc : n ≤ c) (hbytes : i.bytes * c ≤ 281474976710656) (h63 : c ≤ 9223372036854775807) (w : World) :
    (Instr.makeSlice t (.int kl (n : Int)) (.int kc (c : Int))).run P w = .ok (.slice (some ⟨w.heap.size, 0, none⟩) n c) (w.alloc (.cells (madeCells z.cells (c * i.size)) e)) := by
  have hb : (i.bytes : Int) * (c : Int) ≤ 281474976710656 := by
    have h : ((i.bytes * c : Nat) : Int) ≤ 281474976710656 := by omega
    rwa [Int.natCast_mul] at h
  have hr := run_make (P := P) w t e i z ht hi hz kl kc n c (by omega) (by omega) hb (by omega)
  simp only [Int.toNat_natCast] at hr
  exact hr

theorem take_snoc' {α : Type} (l : List α) (k : Nat) (h : k < l.length) : l.take (k + 1) = l.take k ++ [l[k]] := by
  rw [List.take_succ_eq_append_getElem h]
theorem ret_int {k : IntKind} {a b : Int} (h : a = b) : Ending.returned (.int k a) = .returned (.int k b) := by rw [h]
theorem ret_bool {a b : Bool} (h : a = b) : Ending.returned (.bool a) = .returned (.bool b) := by rw [h]

def sumBy {α : Type} (f : α → Nat) : List α → Nat
  | [] => 0
  | x :: xs => f x + sumBy f xs
theorem sumBy_snoc {α : Type} (f : α → Nat) (l : List α) (x : α) : sumBy f (l ++ [x]) = sumBy f l + f x := by
  induction l with
  | nil => simp [sumBy]
  | cons k l ih => simp only [List.cons_append, sumBy, ih]; omega
theorem sumBy_take_le {α : Type} (f : α → Nat) (l : List α) (k : Nat) : sumBy f (l.take k) ≤ sumBy f l := by
  induction l generalizing k with
  | nil => simp [sumBy]
  | cons x l ih =>
    cases k with
    | zero => simp [sumBy]
    | succ k => simp only [List.take_succ_cons, sumBy]; have := ih k; omega
theorem sumBy_take_succ {α : Type} (f : α → Nat) (l : List α) (k : Nat) (h : k < l.length) : sumBy f (l.take (k + 1)) = sumBy f (l.take k) + f l[k] := by
  rw [take_snoc' l k h, sumBy_snoc]
theorem sumBy_mem_le {α : Type} (f : α → Nat) (l : List α) (k : Nat) (h : k < l.length) : f l[k] ≤ sumBy f l := by
  have h2 := sumBy_take_le f l (k + 1)
  rw [sumBy_take_succ f l k h] at h2
  omega

def szLeft (n : Nat) (left : Int) : Int := if (n : Int) ≤ left then left - n else -1

theorem below_drewN {B : Nat} {a w : World} (h : Below B a w) (n : Nat) : Below B a (w.drewN n) := ⟨h.os, h.tape, h.output, h.size, h.block⟩

/-! ### The first place at which a test holds -/
def FirstAt {α : Type} (p : α → Bool) (l : List α) (r : Int) : Prop :=
  (∃ i : Nat, ∃ h : i < l.length, r = i ∧ p l[i] = true ∧ ∀ j (hj : j < l.length), j < i → p l[j] = false) ∨ (r = -1 ∧ ∀ j (hj : j < l.length), p l[j] = false)
theorem FirstAt.ex {α : Type} (p : α → Bool) (l : List α) : ∃ r, FirstAt p l r := by
  induction l with
  | nil => exact ⟨-1, .inr ⟨rfl, fun j hj => by simp at hj⟩⟩
  | cons x xs ih =>
    cases hx : p x with
    | true => exact ⟨0, .inl ⟨0, by simp, rfl, by simpa using hx, fun j hj h => by omega⟩⟩
    | false =>
      obtain ⟨r, ⟨i, h, rfl, hp, hm⟩ | ⟨rfl, hn⟩⟩ := ih
      · refine ⟨((i + 1 : Nat) : Int), .inl ⟨i + 1, by simpa using h, rfl, by simpa using hp, fun j hj hlt => ?_⟩⟩
        cases j with
        | zero => simpa using hx
        | succ j => simpa using hm j (by simpa using hj) (by omega)
      · refine ⟨-1, .inr ⟨rfl, fun j hj => ?_⟩⟩
        cases j with
        | zero => simpa using hx
        | succ j => simpa using hn j (by simpa using hj)
theorem FirstAt.hit {α : Type} {p : α → Bool} {l : List α} {r : Int} (h : FirstAt p l r) {k : Nat} (hk : k < l.length) (hp : p l[k] = true) (hm : ∀ j (hj : j < l.length), j < k → p l[j] = false) : r = k := by
  rcases h with ⟨i, hi, rfl, hpi, hmi⟩ | ⟨rfl, hn⟩
  · rcases Nat.lt_trichotomy i k with h | h | h
    · have := hm i hi h; rw [hpi] at this; cases this
    · rw [h]
    · have := hmi k hk h; rw [hp] at this; cases this
  · have := hn k hk; rw [hp] at this; cases this
theorem FirstAt.miss {α : Type} {p : α → Bool} {l : List α} {r : Int} (h : FirstAt p l r) (hn : ∀ j (hj : j < l.length), p l[j] = false) : r = -1 := by
  rcases h with ⟨i, hi, rfl, hpi, -⟩ | ⟨rfl, -⟩
  · have := hn i hi; rw [hpi] at this; cases this
  · rfl
theorem FirstAt.range {α : Type} {p : α → Bool} {l : List α} {r : Int} (h : FirstAt p l r) : -1 ≤ r ∧ r < l.length := by
  rcases h with ⟨i, hi, rfl, -⟩ | ⟨rfl, -⟩ <;> omega
theorem FirstAt.any {α : Type} {p : α → Bool} {l : List α} {r : Int} (h : FirstAt p l r) : l.any p = decide (0 ≤ r) := by
  rcases h with ⟨i, hi, rfl, hp, -⟩ | ⟨rfl, hn⟩
  · rw [decide_eq_true (by omega), List.any_eq_true]
    exact ⟨_, List.getElem_mem hi, hp⟩
  · rw [decide_eq_false (by omega), List.any_eq_false]
    intro x hx
    obtain ⟨j, hj, rfl⟩ := List.getElem_of_mem hx
    simp [hn j hj]
theorem FirstAt.find {α : Type} {p : α → Bool} {l : List α} {k : Nat} (h : FirstAt p l k) : ∃ hk : k < l.length, l.find? p = some l[k] := by
  rcases h with ⟨i, hi, he, hp, hm⟩ | ⟨h, -⟩
  · obtain rfl : k = i := by omega
    refine ⟨hi, ?_⟩
    rw [List.find?_eq_some_iff_getElem]
    exact ⟨hp, k, hi, rfl, fun j hj => by rw [hm j (by omega) hj]; rfl⟩
  · omega
theorem FirstAt.find_none {α : Type} {p : α → Bool} {l : List α} (h : FirstAt p l (-1)) : l.find? p = none := by
  rcases h with ⟨i, hi, he, -⟩ | ⟨-, hn⟩
  · omega
  · rw [List.find?_eq_none]
    intro x hx
    obtain ⟨j, hj, rfl⟩ := List.getElem_of_mem hx
    simp [hn j hj]

/-! ### Equality of lists and of byte strings as Bool -/
def sameBy {α : Type} (f : α → α → Bool) : List α → List α → Bool
  | [], [] => true
  | x :: xs, y :: ys => f x y && sameBy f xs ys
  | [], _ :: _ => false
  | _ :: _, [] => false
theorem sameBy_iff {α : Type} {f : α → α → Bool} (h : ∀ a b, f a b = true ↔ a = b) : ∀ xs ys, sameBy f xs ys = true ↔ xs = ys
  | [], [] => by simp [sameBy]
  | [], _ :: _ => by simp [sameBy]
  | _ :: _, [] => by simp [sameBy]
  | x :: xs, y :: ys => by simp only [sameBy, Bool.and_eq_true, h, sameBy_iff h xs ys, List.cons.injEq]
theorem sameBy_len {α : Type} {f : α → α → Bool} : ∀ {xs ys : List α}, sameBy f xs ys = true → xs.length = ys.length
  | [], [], _ => rfl
  | [], _ :: _, h => by simp [sameBy] at h
  | _ :: _, [], h => by simp [sameBy] at h
  | x :: xs, y :: ys, h => by
    simp only [sameBy, Bool.and_eq_true] at h
    simp [sameBy_len h.2]
theorem sameBy_len_false {α : Type} {f : α → α → Bool} {xs ys : List α} (h : xs.length ≠ ys.length) : sameBy f xs ys = false := by
  rw [Bool.eq_false_iff]
  exact fun e => h (sameBy_len e)
theorem sameBy_drop {α : Type} {f : α → α → Bool} (xs ys : List α) (k : Nat) (h : k < xs.length) (h' : k < ys.length) : sameBy f (xs.drop k) (ys.drop k) = (f xs[k] ys[k] && sameBy f (xs.drop (k + 1)) (ys.drop (k + 1))) := by
  rw [List.drop_eq_getElem_cons h, List.drop_eq_getElem_cons h', sameBy]
theorem bytes_beq_true {a b : ByteArray} (h : a = b) : (a.toList == b.toList) = true := by rw [h]; simp
theorem bytes_beq_iff (a b : ByteArray) : (a.toList == b.toList) = true ↔ a = b := by
  rw [beq_iff_eq, ByteArray.toList_eq, ByteArray.toList_eq]
  constructor
  · intro h
    cases a; cases b
    simp at h
    rw [h]
  · intro h; rw [h]

end Go.Proofs.Ytddjhneoacnkgaa
