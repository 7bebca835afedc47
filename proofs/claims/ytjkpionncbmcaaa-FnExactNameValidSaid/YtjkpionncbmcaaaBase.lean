/-
  Plain definitions: the data of the program (types, constructors, worlds, values, patterns) as Lean data, and how they lie in memory. Conditions: none.
-/
import Derived.WalkKit
import Derived.WalkSpells
import Derived.WalkLawsBesides
import Derived.Lib.Hide
import Derived.Deep.Draws
import Derived.Laws.OwnMore
namespace Go.Proofs.Ytjkpionncbmcaaa
open Go.RowKit

/-! ### Names -/
def lowerAll (l : List UInt8) : Bool := l.all fun c => 97 ≤ c && c ≤ 122
def nameOk : List UInt8 → Bool
  | [] => false
  | c :: l => decide (l.length ≤ 4) && (65 ≤ c && c ≤ 90) && lowerAll l

theorem lowerAll_append (l m : List UInt8) : lowerAll (l ++ m) = (lowerAll l && lowerAll m) := by simp [lowerAll]
theorem lowerAll_one (c : UInt8) : lowerAll [c] = (decide (97 ≤ c.toNat) && decide (c.toNat ≤ 122)) := by
  simp only [lowerAll, List.all_cons, List.all_nil, Bool.and_true]
  rw [Bool.eq_iff_iff]; simp [UInt8.le_iff_toNat_le]
theorem nameOk_cons (c : UInt8) (l : List UInt8) : nameOk (c :: l) = (decide (l.length ≤ 4) && (decide (65 ≤ c.toNat) && decide (c.toNat ≤ 90)) && lowerAll l) := by
  simp only [nameOk]
  rw [Bool.eq_iff_iff]; simp [UInt8.le_iff_toNat_le]

/-! ### Worlds that are alike on a set of blocks -/
def Keeps (S : Nat → Prop) (w w' : World) : Prop := ∀ b, S b → w'.heap[b]? = w.heap[b]?

theorem Keeps.of_below {S : Nat → Prop} {w w' : World} {B : Nat} (h : Below B w w') (hS : ∀ b, S b → b < B) : Keeps S w w' := fun b hb => h.block b (hS b hb)
theorem Keeps.cell {S : Nat → Prop} {w w' : World} (h : Keeps S w w') {b off : Nat} (hb : S b) : w'.cell? ⟨b, off, none⟩ = w.cell? ⟨b, off, none⟩ := World.cell?_of_block (a := ⟨b, off, none⟩) (h b hb)

/-! ### Rows of elements of several cells -/
def CellsAt (w : World) (b off : Nat) (cs : List Value) : Prop := ∀ j u, cs[j]? = some u → w.cell? ⟨b, off + j, none⟩ = some u

theorem CellsAt.same {w w' : World} {b off : Nat} {cs : List Value} (h : CellsAt w b off cs) (e : w'.heap[b]? = w.heap[b]?) : CellsAt w' b off cs :=
  fun j u hj => (World.cell?_of_block (a := ⟨b, off + j, none⟩) e).trans (h j u hj)

def Arr {α : Type} (w : World) (S : Nat → Prop) (k : Nat) (R : α → List Value → Prop) (xs : List α) (v : Value) : Prop :=
  ∃ A cap, v = .slice A xs.length cap ∧ xs.length ≤ cap ∧ cap ≤ maxLen ∧
    (xs = [] ∨ ∃ b off, A = some ⟨b, off, none⟩ ∧ S b ∧ ∀ i x, xs[i]? = some x → ∃ cs, CellsAt w b (off + i * k) cs ∧ R x cs)

theorem Arr.mono {α : Type} {w w' : World} {S S' : Nat → Prop} {k : Nat} {R R' : α → List Value → Prop} {xs : List α} {v : Value} (h : Arr w S k R xs v)
    (hS : ∀ b, S b → S' b ∧ w'.heap[b]? = w.heap[b]?) (hR : ∀ x ∈ xs, ∀ cs, R x cs → R' x cs) : Arr w' S' k R' xs v := by
  obtain ⟨A, cap, rfl, h1, h2, h3⟩ := h
  refine ⟨A, cap, rfl, h1, h2, ?_⟩
  rcases h3 with h3 | ⟨b, off, rfl, hb, hx⟩
  · exact .inl h3
  · refine .inr ⟨b, off, rfl, (hS b hb).1, fun i x hi => ?_⟩
    obtain ⟨cs, hc, hr⟩ := hx i x hi
    exact ⟨cs, hc.same (hS b hb).2, hR x (List.mem_of_getElem? hi) cs hr⟩

/-! ### Values -/
structure V where
  c : Int
  n : Int
  ks : List V

theorem V.ind {p : V → Prop} (h : ∀ c n ks, (∀ k ∈ ks, p k) → p ⟨c, n, ks⟩) : ∀ v, p v
  | ⟨c, n, ks⟩ => h c n ks fun k hk => V.ind h k
termination_by v => SizeOf.sizeOf v
decreasing_by
  have := List.sizeOf_lt_of_mem hk
  simp
  omega

mutual
def V.size : V → Nat
  | ⟨_, _, ks⟩ => V.sizes ks
def V.sizes : List V → Nat
  | [] => 0
  | k :: ks => 1 + V.size k + V.sizes ks
end

mutual
def VR (w : World) (S : Nat → Prop) : V → List Value → Prop
  | ⟨c, n, ks⟩, cs => ∃ A cap, cs = [.int .i64 c, .int .i64 n, .slice A ks.length cap] ∧ ks.length ≤ cap ∧ cap ≤ maxLen ∧ (ks = [] ∨ ∃ b off, A = some ⟨b, off, none⟩ ∧ S b ∧ VRs w S ks b off)
def VRs (w : World) (S : Nat → Prop) : List V → Nat → Nat → Prop
  | [], _, _ => True
  | k :: ks, b, off => (∃ cs, CellsAt w b off cs ∧ VR w S k cs) ∧ VRs w S ks b (off + 3)
end

theorem VRs_iff {w : World} {S : Nat → Prop} (ks : List V) : ∀ b off, VRs w S ks b off ↔ ∀ i x, ks[i]? = some x → ∃ cs, CellsAt w b (off + i * 3) cs ∧ VR w S x cs := by
  induction ks with
  | nil => intro b off; simp [VRs]
  | cons k ks ih =>
    intro b off
    simp only [VRs]
    rw [ih]
    constructor
    · rintro ⟨h0, h1⟩ i x hi
      cases i with
      | zero =>
        simp at hi
        subst hi
        simpa using h0
      | succ i =>
        have := h1 i x (by simpa using hi)
        rwa [show off + (i + 1) * 3 = off + 3 + i * 3 by omega]
    · intro h
      refine ⟨by simpa using h 0 k rfl, fun i x hi => ?_⟩
      have := h (i + 1) x (by simpa using hi)
      rwa [show off + (i + 1) * 3 = off + 3 + i * 3 by omega] at this

theorem VR_iff {w : World} {S : Nat → Prop} (v : V) (cs : List Value) : VR w S v cs ↔ ∃ kv, cs = [.int .i64 v.c, .int .i64 v.n, kv] ∧ Arr w S 3 (VR w S) v.ks kv := by
  obtain ⟨c, n, ks⟩ := v
  simp only [VR, Arr]
  constructor
  · rintro ⟨A, cap, rfl, h1, h2, h3⟩
    refine ⟨_, rfl, A, cap, rfl, h1, h2, ?_⟩
    rcases h3 with h3 | ⟨b, off, hA, hb, h⟩
    · exact .inl h3
    · exact .inr ⟨b, off, hA, hb, (VRs_iff ks b off).1 h⟩
  · rintro ⟨kv, rfl, A, cap, rfl, h1, h2, h3⟩
    refine ⟨A, cap, rfl, h1, h2, ?_⟩
    rcases h3 with h3 | ⟨b, off, hA, hb, h⟩
    · exact .inl h3
    · exact .inr ⟨b, off, hA, hb, (VRs_iff ks b off).2 h⟩

theorem VR.mono {w w' : World} {S S' : Nat → Prop} (hS : ∀ b, S b → S' b ∧ w'.heap[b]? = w.heap[b]?) : ∀ v cs, VR w S v cs → VR w' S' v cs := by
  refine V.ind fun c n ks ih cs h => ?_
  rw [VR_iff] at h ⊢
  obtain ⟨kv, rfl, h⟩ := h
  exact ⟨kv, rfl, h.mono hS ih⟩

theorem VR.below {w w' : World} {B : Nat} {S : Nat → Prop} {v : V} {cs : List Value} (h : VR w S v cs) (hb : Below B w w') (hS : ∀ b, S b → b < B) : VR w' S v cs :=
  VR.mono (fun b hs => ⟨hs, hb.block b (hS b hs)⟩) v cs h

theorem ArrV.below {w w' : World} {B k : Nat} {S : Nat → Prop} {vs : List V} {x : Value} (h : Arr w S k (VR w S) vs x) (hb : Below B w w') (hS : ∀ b, S b → b < B) : Arr w' S k (VR w' S) vs x :=
  h.mono (fun b hs => ⟨hs, hb.block b (hS b hs)⟩) fun v _ cs hv => hv.below hb hS

end Go.Proofs.Ytjkpionncbmcaaa
