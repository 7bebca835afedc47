/-
  Patterns as Lean data, and how they lie in memory. Conditions: none.
-/
import Derived.Test.YtjejbdbfjiocoaaBase
namespace Go.Proofs.Ytjejbdbfjiocoaa
open Go.RowKit

structure P where
  op : Int
  ct : Int
  n : Int
  m : Int
  va : Int
  ks : List P

theorem P.ind {p : P → Prop} (h : ∀ op ct n m va ks, (∀ k ∈ ks, p k) → p ⟨op, ct, n, m, va, ks⟩) : ∀ v, p v
  | ⟨op, ct, n, m, va, ks⟩ => h op ct n m va ks fun k hk => P.ind h k
termination_by v => SizeOf.sizeOf v
decreasing_by
  have := List.sizeOf_lt_of_mem hk
  simp
  omega

mutual
def P.size : P → Nat
  | ⟨_, _, _, _, _, ks⟩ => P.sizes ks
def P.sizes : List P → Nat
  | [] => 0
  | k :: ks => 1 + P.size k + P.sizes ks
end

def P.subs : List P → Nat
  | [] => 0
  | k :: ks => k.size + P.subs ks
theorem P.subs_snoc (l : List P) (x : P) : P.subs (l ++ [x]) = P.subs l + x.size := by
  induction l with
  | nil => simp [P.subs]
  | cons k l ih => simp only [List.cons_append, P.subs, ih]; omega
theorem P.sizes_eq (l : List P) : P.sizes l = l.length + P.subs l := by
  induction l with
  | nil => rfl
  | cons k l ih => simp only [P.sizes, P.subs, List.length_cons, ih]; omega
theorem P.subs_take_le (l : List P) (k : Nat) : P.subs (l.take k) ≤ P.subs l := by
  induction l generalizing k with
  | nil => simp [P.subs]
  | cons x l ih =>
    cases k with
    | zero => simp [P.subs]
    | succ k => simp only [List.take_succ_cons, P.subs]; have := ih k; omega
theorem P.subs_take_succ (l : List P) (k : Nat) (h : k < l.length) : P.subs (l.take (k + 1)) = P.subs (l.take k) + l[k].size := by
  rw [take_snoc' l k h, P.subs_snoc]
theorem P.size_lt (l : List P) (k : Nat) (h : k < l.length) : l[k].size + l.length ≤ P.sizes l := by
  have h2 := P.subs_take_le l (k + 1)
  rw [P.subs_take_succ l k h] at h2
  rw [P.sizes_eq]
  omega

mutual
def PR (w : World) : P → List Value → List Nat → Prop
  | ⟨op, ct, n, m, va, ks⟩, cs, F => ∃ A cap, cs = [.int .i64 op, .int .i64 ct, .int .i64 n, .int .i64 m, .int .i64 va, .slice A ks.length cap] ∧ ks.length ≤ cap ∧ cap ≤ maxLen ∧ ((ks = [] ∧ F = []) ∨ ∃ b off ds G, A = some ⟨b, off, none⟩ ∧ CellsAt w b off ds ∧ PRs w ks ds G ∧ F = b :: G)
def PRs (w : World) : List P → List Value → List Nat → Prop
  | [], cs, F => cs = [] ∧ F = []
  | x :: xs, cs, F => ∃ c1 c2 F1 F2, cs = c1 ++ c2 ∧ F = F1 ++ F2 ∧ PR w x c1 F1 ∧ PRs w xs c2 F2
end

theorem PRs_eq (w : World) (ks : List P) : ∀ cs F, PRs w ks cs F ↔ Flat (PR w) ks cs F := by
  induction ks with
  | nil => intro cs F; simp [PRs, Flat]
  | cons k ks ih =>
    intro cs F
    simp only [PRs, Flat, ih]

theorem PR_iff {w : World} (v : P) (cs : List Value) (F : List Nat) : PR w v cs F ↔ ∃ kv, cs = [.int .i64 v.op, .int .i64 v.ct, .int .i64 v.n, .int .i64 v.m, .int .i64 v.va, kv] ∧ Arr w (PR w) v.ks kv F := by
  obtain ⟨op, ct, n, m, va, ks⟩ := v
  simp only [PR, Arr, PRs_eq]
  constructor
  · rintro ⟨A, cap, rfl, h1, h2, h3⟩
    exact ⟨_, rfl, A, cap, rfl, h1, h2, h3⟩
  · rintro ⟨kv, rfl, A, cap, rfl, h1, h2, h3⟩
    exact ⟨A, cap, rfl, h1, h2, h3⟩

theorem PR_len {w : World} (v : P) (cs : List Value) (F : List Nat) (h : PR w v cs F) : cs.length = 6 := by
  obtain ⟨kv, rfl, -⟩ := (PR_iff _ _ _).1 h
  rfl

theorem PR.mono {w w' : World} : ∀ v cs F, Kept F w w' → PR w v cs F → PR w' v cs F := by
  refine P.ind fun op ct n m va ks ih cs F hF h => ?_
  rw [PR_iff] at h ⊢
  obtain ⟨kv, rfl, h⟩ := h
  exact ⟨kv, rfl, h.mono hF ih⟩

theorem PR.below {w w' : World} {B : Nat} {v : P} {cs : List Value} {F : List Nat} (h : PR w v cs F) (hb : Below B w w') (hF : Under B F) : PR w' v cs F := PR.mono v cs F (.of_below hb hF) h

theorem PR.drew {w : World} {v : P} {cs : List Value} {F : List Nat} (h : PR w v cs F) : PR w.drew v cs F := PR.mono (w := w) v cs F (fun _ _ => rfl) h
theorem PR.drewN {w : World} {v : P} {cs : List Value} {F : List Nat} (h : PR w v cs F) (n : Nat) : PR (w.drewN n) v cs F := PR.mono (w := w) v cs F (fun _ _ => rfl) h

theorem ArrP.mono {w w' : World} {vs : List P} {x : Value} {F : List Nat} (h : Arr w (PR w) vs x F) (hF : Kept F w w') : Arr w' (PR w') vs x F := h.mono hF fun v _ => PR.mono v
theorem ArrP.below {w w' : World} {B : Nat} {vs : List P} {x : Value} {F : List Nat} (h : Arr w (PR w) vs x F) (hb : Below B w w') (hF : Under B F) : Arr w' (PR w') vs x F := ArrP.mono h (.of_below hb hF)

end Go.Proofs.Ytjejbdbfjiocoaa
