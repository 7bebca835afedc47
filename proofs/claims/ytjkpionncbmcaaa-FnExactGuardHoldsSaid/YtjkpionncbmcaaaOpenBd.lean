/-
  A Bind that comes in as an argument lies in memory as the plain data say. Conditions: none.
-/
import Derived.Test.YtjkpionncbmcaaaBd
import Derived.Test.YtjkpionncbmcaaaOpen
import Derived.Test.YtjkpionncbmcaaaOpenV
import Derived.Test.YtjkpionncbmcaaaChecked
namespace Go.Proofs.Ytjkpionncbmcaaa
open Go.ChangeShapes Go.WideShapes Go.ChangeAt Go.RowKit
set_option maxRecDepth 100000

theorem cellsOf_lawsBd : Try.prog.cellsOf 73 = 4 := by kernel_rfl

theorem open_Bd_cells {H : Type} {enc : TypeId × Value → H} {w : World} {base : Nat} {spare : Nat → Bool} {held : Bool} (fuel : Nat) (cs : List Value) (x : DataW H × List MemPlace)
    (h : DataW.trod enc Try.prog w base spare held fuel 73 cs = some x) : ∃ v F, BdR w v cs F ∧ Under w.heap.size F := by
  obtain ⟨xs, n, rfl, -, hl, hxl, hf⟩ := DataW.trod_struct Try.underlying73 h
  rw [cellsOf_lawsBd] at hl
  match cs, hl with
  | [c0, c1, c2, c3], _ =>
  obtain ⟨y0, f0⟩ := sub_field hf hxl 0 _ rfl 1 0 (by kernel_rfl) rfl
  obtain ⟨i0, e0, -, -⟩ := DataW.trod_int Try.underlying3 f0
  obtain rfl : c0 = .int .i64 i0 := by simpa using e0
  obtain ⟨y1, f1⟩ := sub_field hf hxl 1 _ rfl 3 1 (by kernel_rfl) rfl
  obtain ⟨v1, F1, r1, u1⟩ := open_V_cells n [c1, c2, c3] y1 f1
  exact ⟨⟨i0, v1⟩, F1, ⟨_, rfl, r1⟩, u1⟩

theorem open_Bd {H : Type} {enc : TypeId × Value → H} {w : World} {base : Nat} {spare : Nat → Bool} {held : Bool} {r : Reach} {b0 : Nat} {v : Value} {d : DataW H} {ps : List MemPlace} (hval : Value.okWide Try.prog w r b0 73 v)
    (h : DataW.Trod enc Try.prog w base spare held 73 v d ps) : ∃ (x : Bd) (cs : List Value) (F : List Nat), v = .agg cs.toArray ∧ BdR w x cs F ∧ Under w.heap.size F := by
  obtain ⟨cs, rfl, -⟩ := okWide_struct Try.underlying73 hval
  obtain ⟨fuel, hf⟩ := h
  obtain ⟨x, F, h1, h2⟩ := open_Bd_cells fuel _ _ hf
  exact ⟨x, cs.toList, F, by simp, h1, h2⟩
theorem open_Bds {H : Type} {enc : TypeId × Value → H} {w : World} {base : Nat} {spare : Nat → Bool} {held : Bool} {r : Reach} {b0 : Nat} {v : Value} {d : DataW H} {ps : List MemPlace} (hval : Value.okWide Try.prog w r b0 49 v)
    (h : DataW.Trod enc Try.prog w base spare held 49 v d ps) : ∃ (x : List Bd) (F : List Nat), Arr w (BdR w) x v F ∧ Under w.heap.size F :=
  open_slice_arg (BdR w) Try.underlying49 cellsOf_lawsBd (by decide) (fun n ds y hd => open_Bd_cells n ds y hd) hval h
end Go.Proofs.Ytjkpionncbmcaaa
