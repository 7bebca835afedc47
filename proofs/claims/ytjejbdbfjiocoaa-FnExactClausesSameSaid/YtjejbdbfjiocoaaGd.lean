/-
  Guards as Lean data, and how they lie in memory. Conditions: none.
-/
import Derived.Test.YtjejbdbfjiocoaaBase
namespace Go.Proofs.Ytjejbdbfjiocoaa
open Go.RowKit

@[ext] structure Gd where
  op : Int
  va : Int
  n : Int

def Gd.size (x : Gd) : Nat := 0
def Gd.sizes (l : List Gd) : Nat := l.length + sumBy Gd.size l
def GdR (w : World) (x : Gd) (cs : List Value) (F : List Nat) : Prop := cs = [.int .i64 x.op] ++ [.int .i64 x.va] ++ [.int .i64 x.n] ∧ F = []
theorem GdR_form {w : World} {x : Gd} {cs : List Value} {F : List Nat} (h : GdR w x cs F) : cs = [.int .i64 x.op, .int .i64 x.va, .int .i64 x.n] := h.1
theorem GdR_len {w : World} (x : Gd) (cs : List Value) (F : List Nat) (h : GdR w x cs F) : cs.length = 3 := by
  obtain ⟨rfl, -⟩ := h
  rfl
theorem GdR.mono {w w' : World} (x : Gd) (cs : List Value) (F : List Nat) (_hF : Kept F w w') (h : GdR w x cs F) : GdR w' x cs F := h
theorem GdR.mk0 (w : World) (x : Gd) : GdR w x [.int .i64 x.op, .int .i64 x.va, .int .i64 x.n] [] := ⟨rfl, rfl⟩
theorem Gd.size_le (x : Gd) : x.size ≤ 1048576 := Nat.zero_le _
theorem GdR.below {w w' : World} {B : Nat} {v : Gd} {cs : List Value} {F : List Nat} (h : GdR w v cs F) (hb : Below B w w') (hF : Under B F) : GdR w' v cs F := GdR.mono v cs F (.of_below hb hF) h
theorem GdR.drew {w : World} {v : Gd} {cs : List Value} {F : List Nat} (h : GdR w v cs F) : GdR w.drew v cs F := GdR.mono (w := w) v cs F (fun _ _ => rfl) h
theorem ArrGd.mono {w w' : World} {vs : List Gd} {x : Value} {F : List Nat} (h : Arr w (GdR w) vs x F) (hF : Kept F w w') : Arr w' (GdR w') vs x F := h.mono hF fun v _ => GdR.mono v
theorem ArrGd.below {w w' : World} {B : Nat} {vs : List Gd} {x : Value} {F : List Nat} (h : Arr w (GdR w) vs x F) (hb : Below B w w') (hF : Under B F) : Arr w' (GdR w') vs x F := ArrGd.mono h (.of_below hb hF)
theorem ArrGd.drew {w : World} {vs : List Gd} {x : Value} {F : List Nat} (h : Arr w (GdR w) vs x F) : Arr w.drew (GdR w.drew) vs x F := ArrGd.mono (w := w) h (fun _ _ => rfl)
end Go.Proofs.Ytjejbdbfjiocoaa
