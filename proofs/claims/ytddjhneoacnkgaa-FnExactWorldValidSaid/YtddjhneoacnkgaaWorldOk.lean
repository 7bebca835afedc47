/-
  What a valid world is, in plain Lean: one walk over the data types with the names met so far. Conditions: none.
-/
import Derived.Test.YtddjhneoacnkgaaDt
import Derived.Test.YtddjhneoacnkgaaCtor
import Derived.Test.YtddjhneoacnkgaaDName
namespace Go.Proofs.Ytddjhneoacnkgaa
open Go.RowKit

def nameIn (l : List ByteArray) (s : ByteArray) : Bool := l.any fun x => x.toList == s.toList
def ctorsGo (n : Int) : List ByteArray → List Kt → Bool
  | _, [] => true
  | met, c :: cs => ctorOkB n c && (!nameIn met c.name && ctorsGo n (met ++ [c.name]) cs)
/-- the same as the reference has it: b says that the data type's name stood before -/
def ctorsSpec (n : Int) (b : Bool) : List ByteArray → List Kt → Bool
  | _, [] => true
  | met, c :: cs => ctorOkB n c && (!(b || nameIn met c.name) && ctorsSpec n b (met ++ [c.name]) cs)
def worldGo (n : Int) : List ByteArray → List ByteArray → List Dt → Bool
  | _, _, [] => true
  | datas, met, d :: ds => dnameOk d.name.data.toList && (!nameIn datas d.name && (withinB (d.ctors.length : Int) 1 4 && (ctorsGo n met d.ctors && worldGo n (datas ++ [d.name]) (met ++ d.ctors.map Kt.name) ds)))
def worldOk (xs : List Dt) : Bool := decide ((xs.length : Int) ≤ 4) && worldGo xs.length [] [] xs

theorem ctorsSpec_false (n : Int) : ∀ (cs : List Kt) (met : List ByteArray), ctorsSpec n false met cs = ctorsGo n met cs
  | [], _ => rfl
  | c :: cs, met => by rw [ctorsSpec, ctorsGo, ctorsSpec_false n cs, Bool.false_or]
theorem ctorsSpec_true (n : Int) (c : Kt) (cs : List Kt) (met : List ByteArray) : ctorsSpec n true met (c :: cs) = false := by
  rw [ctorsSpec, Bool.true_or, Bool.not_true, Bool.false_and, Bool.and_false]
/-- the reference's test of the constructors, where there is one at least -/
theorem ctorsSpec_eq (n : Int) (b : Bool) (cs : List Kt) (met : List ByteArray) (h : cs ≠ []) : ctorsSpec n b met cs = (!b && ctorsGo n met cs) := by
  cases b with
  | false => rw [ctorsSpec_false]; rfl
  | true =>
    cases cs with
    | nil => exact absurd rfl h
    | cons c cs => rw [ctorsSpec_true]; rfl
end Go.Proofs.Ytddjhneoacnkgaa
