/-
  Datas as Lean data, and how they lie in memory. Conditions: none.
-/
import Derived.Test.YtddjhneoacnkgaaKt
namespace Go.Proofs.Ytddjhneoacnkgaa
open Go.RowKit

@[ext] structure Dt where
  name : ByteArray
  ctors : List Kt

def Dt.size (x : Dt) : Nat := x.name.size + Kt.sizes x.ctors
def Dt.sizes (l : List Dt) : Nat := l.length + sumBy Dt.size l
def DtR (w : World) (x : Dt) (cs : List Value) (F : List Nat) : Prop := ∃ kv : Value, cs = [.string x.name] ++ [kv] ∧ Arr w (KtR w) x.ctors kv F ∧ x.name.size ≤ 9223372036854775807
theorem DtR_form {w : World} {x : Dt} {cs : List Value} {F : List Nat} (h : DtR w x cs F) : ∃ A cap, cs = [.string x.name, .slice A x.ctors.length cap] := by
  obtain ⟨kv, rfl, ha, -⟩ := h
  obtain ⟨A, cap, rfl, -, -⟩ := ha.form
  exact ⟨A, cap, rfl⟩
theorem DtR_len {w : World} (x : Dt) (cs : List Value) (F : List Nat) (h : DtR w x cs F) : cs.length = 2 := by
  obtain ⟨A, cap, rfl⟩ := DtR_form h
  rfl
theorem DtR.mono {w w' : World} (x : Dt) (cs : List Value) (F : List Nat) (hF : Kept F w w') (h : DtR w x cs F) : DtR w' x cs F := by
  obtain ⟨kv, e, ha, hs0⟩ := h
  exact ⟨_, e, ha.mono hF fun y _ => KtR.mono y, hs0⟩
theorem DtR.below {w w' : World} {B : Nat} {v : Dt} {cs : List Value} {F : List Nat} (h : DtR w v cs F) (hb : Below B w w') (hF : Under B F) : DtR w' v cs F := DtR.mono v cs F (.of_below hb hF) h
theorem DtR.drew {w : World} {v : Dt} {cs : List Value} {F : List Nat} (h : DtR w v cs F) : DtR w.drew v cs F := DtR.mono (w := w) v cs F (fun _ _ => rfl) h
theorem ArrDt.mono {w w' : World} {vs : List Dt} {x : Value} {F : List Nat} (h : Arr w (DtR w) vs x F) (hF : Kept F w w') : Arr w' (DtR w') vs x F := h.mono hF fun v _ => DtR.mono v
theorem ArrDt.below {w w' : World} {B : Nat} {vs : List Dt} {x : Value} {F : List Nat} (h : Arr w (DtR w) vs x F) (hb : Below B w w') (hF : Under B F) : Arr w' (DtR w') vs x F := ArrDt.mono h (.of_below hb hF)
theorem ArrDt.drew {w : World} {vs : List Dt} {x : Value} {F : List Nat} (h : Arr w (DtR w) vs x F) : Arr w.drew (DtR w.drew) vs x F := ArrDt.mono (w := w) h (fun _ _ => rfl)
end Go.Proofs.Ytddjhneoacnkgaa
