/-
  Lemmas and contracts of functions: A slice of bytes that comes in as an argument lies in memory as the plain data say. Conditions: none.
-/
import Derived.Test.YtcknbkbejifhcaaDoorFnWorldSamePb
import Derived.Test.YtcknbkbejifhcaaDoorFnWorldSamePc
import Derived.Test.YtcknbkbejifhcaaDoorChecked

set_option linter.unusedVariables false
set_option linter.unusedSimpArgs false

namespace Go.Proofs.YtcknbkbejifhcaaDoor
open Go.ChangeShapes Go.WideShapes Go.ChangeAt Go.RowKit
set_option maxRecDepth 100000

theorem cellsOf_u8 : Tryd.prog.cellsOf 5 = 1 := by kernel_rfl
theorem open_By_cells {H : Type} {enc : TypeId × Value → H} {w : World} {base : Nat} {spare : Nat → Bool} {held : Bool} (fuel : Nat) (cs : List Value) (x : DataW H × List MemPlace)
    (h : DataW.trod enc Tryd.prog w base spare held fuel 5 cs = some x) : ∃ v F, ByR w v cs F ∧ Under w.heap.size F := by
  cases fuel with
  | zero => simp [DataW.trod] at h
  | succ n =>
  obtain ⟨i0, e0, -, e2⟩ := DataW.trod_int Tryd.underlying5 h
  have hw : IntKind.u8.min ≤ i0 ∧ i0 ≤ IntKind.u8.max := by simpa [Lit.wf] using e2
  have h0 : IntKind.u8.min = 0 := rfl
  have h1 : IntKind.u8.max = 255 := rfl
  exact ⟨i0, [], ⟨e0, rfl, by omega, by omega⟩, Under.nil _⟩
theorem open_Bytes {H : Type} {enc : TypeId × Value → H} {w : World} {base : Nat} {spare : Nat → Bool} {held : Bool} {r : Reach} {b0 : Nat} {v : Value} {d : DataW H} {ps : List MemPlace} (hval : Value.okWide Tryd.prog w r b0 22 v)
    (h : DataW.Trod enc Tryd.prog w base spare held 22 v d ps) : ∃ (x : List Int) (F : List Nat), Arr w (ByR w) x v F ∧ Under w.heap.size F :=
  open_slice_arg (ByR w) Tryd.underlying22 cellsOf_u8 (by decide) (fun n ds y hd => open_By_cells n ds y hd) hval h
end Go.Proofs.YtcknbkbejifhcaaDoor
