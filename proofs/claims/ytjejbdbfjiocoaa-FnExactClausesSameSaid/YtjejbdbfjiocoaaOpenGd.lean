/-
  A Guard that comes in as an argument lies in memory as the plain data say. Conditions: none.
-/
import Derived.Test.YtjejbdbfjiocoaaGd
import Derived.Test.YtjejbdbfjiocoaaOpen
import Derived.Test.YtjejbdbfjiocoaaChecked
namespace Go.Proofs.Ytjejbdbfjiocoaa
open Go.ChangeShapes Go.WideShapes Go.ChangeAt Go.RowKit
set_option maxRecDepth 100000

theorem cellsOf_lawsGd : Try.prog.cellsOf 72 = 3 := by kernel_rfl

theorem open_Gd_cells {H : Type} {enc : TypeId × Value → H} {w : World} {base : Nat} {spare : Nat → Bool} {held : Bool} (fuel : Nat) (cs : List Value) (x : DataW H × List MemPlace)
    (h : DataW.trod enc Try.prog w base spare held fuel 72 cs = some x) : ∃ v F, GdR w v cs F ∧ Under w.heap.size F := by
  obtain ⟨xs, n, rfl, -, hl, hxl, hf⟩ := DataW.trod_struct Try.underlying72 h
  rw [cellsOf_lawsGd] at hl
  match cs, hl with
  | [c0, c1, c2], _ =>
  obtain ⟨y0, f0⟩ := sub_field hf hxl 0 _ rfl 1 0 (by kernel_rfl) rfl
  obtain ⟨i0, e0, -, -⟩ := DataW.trod_int Try.underlying3 f0
  obtain rfl : c0 = .int .i64 i0 := by simpa using e0
  obtain ⟨y1, f1⟩ := sub_field hf hxl 1 _ rfl 1 1 (by kernel_rfl) rfl
  obtain ⟨i1, e1, -, -⟩ := DataW.trod_int Try.underlying3 f1
  obtain rfl : c1 = .int .i64 i1 := by simpa using e1
  obtain ⟨y2, f2⟩ := sub_field hf hxl 2 _ rfl 1 2 (by kernel_rfl) rfl
  obtain ⟨i2, e2, -, -⟩ := DataW.trod_int Try.underlying3 f2
  obtain rfl : c2 = .int .i64 i2 := by simpa using e2
  exact ⟨⟨i0, i1, i2⟩, [], ⟨rfl, rfl⟩, Under.nil _⟩

theorem open_Gd {H : Type} {enc : TypeId × Value → H} {w : World} {base : Nat} {spare : Nat → Bool} {held : Bool} {r : Reach} {b0 : Nat} {v : Value} {d : DataW H} {ps : List MemPlace} (hval : Value.okWide Try.prog w r b0 72 v)
    (h : DataW.Trod enc Try.prog w base spare held 72 v d ps) : ∃ (x : Gd) (cs : List Value) (F : List Nat), v = .agg cs.toArray ∧ GdR w x cs F ∧ Under w.heap.size F := by
  obtain ⟨cs, rfl, -⟩ := okWide_struct Try.underlying72 hval
  obtain ⟨fuel, hf⟩ := h
  obtain ⟨x, F, h1, h2⟩ := open_Gd_cells fuel _ _ hf
  exact ⟨x, cs.toList, F, by simp, h1, h2⟩
end Go.Proofs.Ytjejbdbfjiocoaa
