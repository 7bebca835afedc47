/-
  Types as Lean data, and how they lie in memory. Conditions: none.
-/
import Derived.Test.YtddjhneoacnkgaaBase
namespace Go.Proofs.Ytddjhneoacnkgaa
open Go.RowKit

@[ext] structure Ty where
  d : Int
  i : Int

def Ty.size (x : Ty) : Nat := 0
def Ty.sizes (l : List Ty) : Nat := l.length + sumBy Ty.size l
def TyR (w : World) (x : Ty) (cs : List Value) (F : List Nat) : Prop := cs = [.int .i64 x.d] ++ [.int .i64 x.i] ∧ F = []
theorem TyR_form {w : World} {x : Ty} {cs : List Value} {F : List Nat} (h : TyR w x cs F) : cs = [.int .i64 x.d, .int .i64 x.i] := h.1
theorem TyR_len {w : World} (x : Ty) (cs : List Value) (F : List Nat) (h : TyR w x cs F) : cs.length = 2 := by
  obtain ⟨rfl, -⟩ := h
  rfl
theorem TyR.mono {w w' : World} (x : Ty) (cs : List Value) (F : List Nat) (_hF : Kept F w w') (h : TyR w x cs F) : TyR w' x cs F := h
theorem TyR.mk0 (w : World) (x : Ty) : TyR w x [.int .i64 x.d, .int .i64 x.i] [] := ⟨rfl, rfl⟩
theorem Ty.size_le (x : Ty) : x.size ≤ 1048576 := Nat.zero_le _
theorem TyR.below {w w' : World} {B : Nat} {v : Ty} {cs : List Value} {F : List Nat} (h : TyR w v cs F) (hb : Below B w w') (hF : Under B F) : TyR w' v cs F := TyR.mono v cs F (.of_below hb hF) h
theorem TyR.drew {w : World} {v : Ty} {cs : List Value} {F : List Nat} (h : TyR w v cs F) : TyR w.drew v cs F := TyR.mono (w := w) v cs F (fun _ _ => rfl) h
theorem ArrTy.mono {w w' : World} {vs : List Ty} {x : Value} {F : List Nat} (h : Arr w (TyR w) vs x F) (hF : Kept F w w') : Arr w' (TyR w') vs x F := h.mono hF fun v _ => TyR.mono v
theorem ArrTy.below {w w' : World} {B : Nat} {vs : List Ty} {x : Value} {F : List Nat} (h : Arr w (TyR w) vs x F) (hb : Below B w w') (hF : Under B F) : Arr w' (TyR w') vs x F := ArrTy.mono h (.of_below hb hF)
theorem ArrTy.drew {w : World} {vs : List Ty} {x : Value} {F : List Nat} (h : Arr w (TyR w) vs x F) : Arr w.drew (TyR w.drew) vs x F := ArrTy.mono (w := w) h (fun _ _ => rfl)
end Go.Proofs.Ytddjhneoacnkgaa
