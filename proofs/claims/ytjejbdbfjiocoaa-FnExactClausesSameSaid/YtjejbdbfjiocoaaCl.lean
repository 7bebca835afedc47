/-
  Clauses as Lean data, and how they lie in memory. Conditions: none.
-/
import Derived.Test.YtjejbdbfjiocoaaP
import Derived.Test.YtjejbdbfjiocoaaGd
namespace Go.Proofs.Ytjejbdbfjiocoaa
open Go.RowKit

@[ext] structure Cl where
  pat : P
  gd : Gd

def Cl.size (x : Cl) : Nat := x.pat.size
def Cl.sizes (l : List Cl) : Nat := l.length + sumBy Cl.size l
def ClR (w : World) (x : Cl) (cs : List Value) (F : List Nat) : Prop := ∃ ds : List Value, cs = ds ++ [.int .i64 x.gd.op, .int .i64 x.gd.va, .int .i64 x.gd.n] ∧ PR w x.pat ds F
theorem ClR_form {w : World} {x : Cl} {cs : List Value} {F : List Nat} (h : ClR w x cs F) : ∃ A cap, cs = [.int .i64 x.pat.op, .int .i64 x.pat.ct, .int .i64 x.pat.n, .int .i64 x.pat.m, .int .i64 x.pat.va, .slice A x.pat.ks.length cap, .int .i64 x.gd.op, .int .i64 x.gd.va, .int .i64 x.gd.n] := by
  obtain ⟨ds, rfl, ha⟩ := h
  obtain ⟨kv, rfl, ha2⟩ := (PR_iff _ _ _).1 ha
  obtain ⟨A, cap, rfl, -, -⟩ := ha2.form
  exact ⟨A, cap, rfl⟩
theorem ClR_len {w : World} (x : Cl) (cs : List Value) (F : List Nat) (h : ClR w x cs F) : cs.length = 9 := by
  obtain ⟨A, cap, rfl⟩ := ClR_form h
  rfl
theorem ClR.mono {w w' : World} (x : Cl) (cs : List Value) (F : List Nat) (hF : Kept F w w') (h : ClR w x cs F) : ClR w' x cs F := by
  obtain ⟨ds, e, ha⟩ := h
  exact ⟨_, e, PR.mono _ _ _ hF ha⟩
theorem ClR.below {w w' : World} {B : Nat} {v : Cl} {cs : List Value} {F : List Nat} (h : ClR w v cs F) (hb : Below B w w') (hF : Under B F) : ClR w' v cs F := ClR.mono v cs F (.of_below hb hF) h
theorem ClR.drew {w : World} {v : Cl} {cs : List Value} {F : List Nat} (h : ClR w v cs F) : ClR w.drew v cs F := ClR.mono (w := w) v cs F (fun _ _ => rfl) h
theorem ArrCl.mono {w w' : World} {vs : List Cl} {x : Value} {F : List Nat} (h : Arr w (ClR w) vs x F) (hF : Kept F w w') : Arr w' (ClR w') vs x F := h.mono hF fun v _ => ClR.mono v
theorem ArrCl.below {w w' : World} {B : Nat} {vs : List Cl} {x : Value} {F : List Nat} (h : Arr w (ClR w) vs x F) (hb : Below B w w') (hF : Under B F) : Arr w' (ClR w') vs x F := ArrCl.mono h (.of_below hb hF)
theorem ArrCl.drew {w : World} {vs : List Cl} {x : Value} {F : List Nat} (h : Arr w (ClR w) vs x F) : Arr w.drew (ClR w.drew) vs x F := ArrCl.mono (w := w) h (fun _ _ => rfl)
end Go.Proofs.Ytjejbdbfjiocoaa
