/-
  Ctors as Lean data, and how they lie in memory. Conditions: none.
-/
import Derived.Test.YtddjhneoacnkgaaTy
namespace Go.Proofs.Ytddjhneoacnkgaa
open Go.RowKit

@[ext] structure Kt where
  name : ByteArray
  args : List Ty
  idx : Int

def Kt.size (x : Kt) : Nat := x.name.size + Ty.sizes x.args
def Kt.sizes (l : List Kt) : Nat := l.length + sumBy Kt.size l
def KtR (w : World) (x : Kt) (cs : List Value) (F : List Nat) : Prop := ∃ kv : Value, cs = [.string x.name] ++ [kv] ++ [.int .i64 x.idx] ∧ Arr w (TyR w) x.args kv F ∧ x.name.size ≤ 9223372036854775807
theorem KtR_form {w : World} {x : Kt} {cs : List Value} {F : List Nat} (h : KtR w x cs F) : ∃ A cap, cs = [.string x.name, .slice A x.args.length cap, .int .i64 x.idx] := by
  obtain ⟨kv, rfl, ha, -⟩ := h
  obtain ⟨A, cap, rfl, -, -⟩ := ha.form
  exact ⟨A, cap, rfl⟩
theorem KtR_len {w : World} (x : Kt) (cs : List Value) (F : List Nat) (h : KtR w x cs F) : cs.length = 3 := by
  obtain ⟨A, cap, rfl⟩ := KtR_form h
  rfl
theorem KtR.mono {w w' : World} (x : Kt) (cs : List Value) (F : List Nat) (hF : Kept F w w') (h : KtR w x cs F) : KtR w' x cs F := by
  obtain ⟨kv, e, ha, hs0⟩ := h
  exact ⟨_, e, ha.mono hF fun y _ => TyR.mono y, hs0⟩
theorem KtR.below {w w' : World} {B : Nat} {v : Kt} {cs : List Value} {F : List Nat} (h : KtR w v cs F) (hb : Below B w w') (hF : Under B F) : KtR w' v cs F := KtR.mono v cs F (.of_below hb hF) h
theorem KtR.drew {w : World} {v : Kt} {cs : List Value} {F : List Nat} (h : KtR w v cs F) : KtR w.drew v cs F := KtR.mono (w := w) v cs F (fun _ _ => rfl) h
theorem ArrKt.mono {w w' : World} {vs : List Kt} {x : Value} {F : List Nat} (h : Arr w (KtR w) vs x F) (hF : Kept F w w') : Arr w' (KtR w') vs x F := h.mono hF fun v _ => KtR.mono v
theorem ArrKt.below {w w' : World} {B : Nat} {vs : List Kt} {x : Value} {F : List Nat} (h : Arr w (KtR w) vs x F) (hb : Below B w w') (hF : Under B F) : Arr w' (KtR w') vs x F := ArrKt.mono h (.of_below hb hF)
theorem ArrKt.drew {w : World} {vs : List Kt} {x : Value} {F : List Nat} (h : Arr w (KtR w) vs x F) : Arr w.drew (KtR w.drew) vs x F := ArrKt.mono (w := w) h (fun _ _ => rfl)
end Go.Proofs.Ytddjhneoacnkgaa
