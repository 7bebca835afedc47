/-
  A Clause that comes in as an argument lies in memory as the plain data say. Conditions: none.
-/
import Derived.Test.YtjejbdbfjiocoaaCl
import Derived.Test.YtjejbdbfjiocoaaOpen
import Derived.Test.YtjejbdbfjiocoaaOpenP
import Derived.Test.YtjejbdbfjiocoaaOpenGd
import Derived.Test.YtjejbdbfjiocoaaChecked
namespace Go.Proofs.Ytjejbdbfjiocoaa
open Go.ChangeShapes Go.WideShapes Go.ChangeAt Go.RowKit
set_option maxRecDepth 100000

theorem cellsOf_lawsCl : Try.prog.cellsOf 74 = 9 := by kernel_rfl

theorem open_Cl_cells {H : Type} {enc : TypeId × Value → H} {w : World} {base : Nat} {spare : Nat → Bool} {held : Bool} (fuel : Nat) (cs : List Value) (x : DataW H × List MemPlace)
    (h : DataW.trod enc Try.prog w base spare held fuel 74 cs = some x) : ∃ v F, ClR w v cs F ∧ Under w.heap.size F := by
  obtain ⟨xs, n, rfl, -, hl, hxl, hf⟩ := DataW.trod_struct Try.underlying74 h
  rw [cellsOf_lawsCl] at hl
  match cs, hl with
  | [c0, c1, c2, c3, c4, c5, c6, c7, c8], _ =>
  obtain ⟨y0, f0⟩ := sub_field hf hxl 0 _ rfl 6 0 (by kernel_rfl) rfl
  obtain ⟨v0, F0, r0, u0⟩ := open_P_cells n [c0, c1, c2, c3, c4, c5] y0 f0
  obtain ⟨y1, f1⟩ := sub_field hf hxl 1 _ rfl 3 6 (by kernel_rfl) rfl
  obtain ⟨v1, F1, r1, u1⟩ := open_Gd_cells n [c6, c7, c8] y1 f1
  have rr1 := GdR_form r1
  simp only [List.cons.injEq, and_true] at rr1
  obtain ⟨rfl, rfl, rfl⟩ := rr1
  exact ⟨⟨v0, v1⟩, F0, ⟨_, rfl, r0⟩, u0⟩

theorem open_Cl {H : Type} {enc : TypeId × Value → H} {w : World} {base : Nat} {spare : Nat → Bool} {held : Bool} {r : Reach} {b0 : Nat} {v : Value} {d : DataW H} {ps : List MemPlace} (hval : Value.okWide Try.prog w r b0 74 v)
    (h : DataW.Trod enc Try.prog w base spare held 74 v d ps) : ∃ (x : Cl) (cs : List Value) (F : List Nat), v = .agg cs.toArray ∧ ClR w x cs F ∧ Under w.heap.size F := by
  obtain ⟨cs, rfl, -⟩ := okWide_struct Try.underlying74 hval
  obtain ⟨fuel, hf⟩ := h
  obtain ⟨x, F, h1, h2⟩ := open_Cl_cells fuel _ _ hf
  exact ⟨x, cs.toList, F, by simp, h1, h2⟩
theorem open_Cls {H : Type} {enc : TypeId × Value → H} {w : World} {base : Nat} {spare : Nat → Bool} {held : Bool} {r : Reach} {b0 : Nat} {v : Value} {d : DataW H} {ps : List MemPlace} (hval : Value.okWide Try.prog w r b0 22 v)
    (h : DataW.Trod enc Try.prog w base spare held 22 v d ps) : ∃ (x : List Cl) (F : List Nat), Arr w (ClR w) x v F ∧ Under w.heap.size F :=
  open_slice_arg (ClR w) Try.underlying22 cellsOf_lawsCl (by decide) (fun n ds y hd => open_Cl_cells n ds y hd) hval h
end Go.Proofs.Ytjejbdbfjiocoaa
