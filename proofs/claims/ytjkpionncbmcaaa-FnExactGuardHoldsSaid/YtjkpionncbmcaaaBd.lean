/-
  Binds as Lean data, and how they lie in memory. Conditions: none.
-/
import Derived.Test.YtjkpionncbmcaaaV
namespace Go.Proofs.Ytjkpionncbmcaaa
open Go.RowKit

@[ext] structure Bd where
  var : Int
  val : V

def Bd.size (x : Bd) : Nat := x.val.size
def Bd.sizes (l : List Bd) : Nat := l.length + sumBy Bd.size l
def BdR (w : World) (x : Bd) (cs : List Value) (F : List Nat) : Prop := ∃ ds : List Value, cs = [.int .i64 x.var] ++ ds ∧ VR w x.val ds F
theorem BdR_form {w : World} {x : Bd} {cs : List Value} {F : List Nat} (h : BdR w x cs F) : ∃ A cap, cs = [.int .i64 x.var, .int .i64 x.val.c, .int .i64 x.val.n, .slice A x.val.ks.length cap] := by
  obtain ⟨ds, rfl, ha⟩ := h
  obtain ⟨kv, rfl, ha2⟩ := (VR_iff _ _ _).1 ha
  obtain ⟨A, cap, rfl, -, -⟩ := ha2.form
  exact ⟨A, cap, rfl⟩
theorem BdR_len {w : World} (x : Bd) (cs : List Value) (F : List Nat) (h : BdR w x cs F) : cs.length = 4 := by
  obtain ⟨A, cap, rfl⟩ := BdR_form h
  rfl
theorem BdR.mono {w w' : World} (x : Bd) (cs : List Value) (F : List Nat) (hF : Kept F w w') (h : BdR w x cs F) : BdR w' x cs F := by
  obtain ⟨ds, e, ha⟩ := h
  exact ⟨_, e, VR.mono _ _ _ hF ha⟩
theorem BdR.below {w w' : World} {B : Nat} {v : Bd} {cs : List Value} {F : List Nat} (h : BdR w v cs F) (hb : Below B w w') (hF : Under B F) : BdR w' v cs F := BdR.mono v cs F (.of_below hb hF) h
theorem BdR.drew {w : World} {v : Bd} {cs : List Value} {F : List Nat} (h : BdR w v cs F) : BdR w.drew v cs F := BdR.mono (w := w) v cs F (fun _ _ => rfl) h
theorem ArrBd.mono {w w' : World} {vs : List Bd} {x : Value} {F : List Nat} (h : Arr w (BdR w) vs x F) (hF : Kept F w w') : Arr w' (BdR w') vs x F := h.mono hF fun v _ => BdR.mono v
theorem ArrBd.below {w w' : World} {B : Nat} {vs : List Bd} {x : Value} {F : List Nat} (h : Arr w (BdR w) vs x F) (hb : Below B w w') (hF : Under B F) : Arr w' (BdR w') vs x F := ArrBd.mono h (.of_below hb hF)
theorem ArrBd.drew {w : World} {vs : List Bd} {x : Value} {F : List Nat} (h : Arr w (BdR w) vs x F) : Arr w.drew (BdR w.drew) vs x F := ArrBd.mono (w := w) h (fun _ _ => rfl)
end Go.Proofs.Ytjkpionncbmcaaa
