/-
  A Pattern that comes in as an argument lies in memory as the plain data say. Conditions: none.
-/
import Derived.Test.YtjejbdbfjiocoaaP
import Derived.Test.YtjejbdbfjiocoaaOpen
import Derived.Test.YtjejbdbfjiocoaaChecked
namespace Go.Proofs.Ytjejbdbfjiocoaa
open Go.ChangeShapes Go.WideShapes Go.ChangeAt Go.RowKit
set_option maxRecDepth 100000

theorem cellsOf_lawsP : Try.prog.cellsOf 46 = 6 := by kernel_rfl

theorem open_P_cells {H : Type} {enc : TypeId × Value → H} {w : World} {base : Nat} {spare : Nat → Bool} {held : Bool} (fuel : Nat) : ∀ (cs : List Value) (x : DataW H × List MemPlace),
    DataW.trod enc Try.prog w base spare held fuel 46 cs = some x → ∃ v F, PR w v cs F ∧ Under w.heap.size F := by
  induction fuel using Nat.strongRecOn with
  | ind fuel ih =>
  intro cs x h
  obtain ⟨xs, n, rfl, -, hl, hxl, hf⟩ := DataW.trod_struct Try.underlying46 h
  rw [cellsOf_lawsP] at hl
  match cs, hl with
  | [c0, c1, c2, c3, c4, c5], _ =>
  obtain ⟨y, hq⟩ := one_field hf (by kernel_rfl) hxl 5 _ rfl c5 rfl
  obtain ⟨y0, f0⟩ := one_field hf (by kernel_rfl) hxl 0 _ rfl c0 rfl
  obtain ⟨i0, e0, -, -⟩ := DataW.trod_int Try.underlying3 f0
  obtain ⟨y1, f1⟩ := one_field hf (by kernel_rfl) hxl 1 _ rfl c1 rfl
  obtain ⟨i1, e1, -, -⟩ := DataW.trod_int Try.underlying3 f1
  obtain ⟨y2, f2⟩ := one_field hf (by kernel_rfl) hxl 2 _ rfl c2 rfl
  obtain ⟨i2, e2, -, -⟩ := DataW.trod_int Try.underlying3 f2
  obtain ⟨y3, f3⟩ := one_field hf (by kernel_rfl) hxl 3 _ rfl c3 rfl
  obtain ⟨i3, e3, -, -⟩ := DataW.trod_int Try.underlying3 f3
  obtain ⟨y4, f4⟩ := one_field hf (by kernel_rfl) hxl 4 _ rfl c4 rfl
  obtain ⟨i4, e4, -, -⟩ := DataW.trod_int Try.underlying3 f4
  simp only [List.cons.injEq, and_true] at e0 e1 e2 e3 e4
  subst e0 e1 e2 e3 e4
  cases n with
  | zero => simp [DataW.trod] at hq
  | succ n =>
    obtain ⟨ks, kv, F, ek, ha, hF⟩ := open_Arr (PR w) Try.underlying44 cellsOf_lawsP (by decide) rfl (fun ds y hd _ => ih n (by omega) ds y hd) hq
    simp only [List.cons.injEq, and_true] at ek
    subst ek
    exact ⟨⟨i0, i1, i2, i3, i4, ks⟩, F, (PR_iff _ _ _).2 ⟨_, rfl, ha⟩, hF⟩

theorem open_P {H : Type} {enc : TypeId × Value → H} {w : World} {base : Nat} {spare : Nat → Bool} {held : Bool} {r : Reach} {b0 : Nat} {v : Value} {d : DataW H} {ps : List MemPlace} (hval : Value.okWide Try.prog w r b0 46 v)
    (h : DataW.Trod enc Try.prog w base spare held 46 v d ps) : ∃ (x : P) (cs : List Value) (F : List Nat), v = .agg cs.toArray ∧ PR w x cs F ∧ Under w.heap.size F := by
  obtain ⟨cs, rfl, -⟩ := okWide_struct Try.underlying46 hval
  obtain ⟨fuel, hf⟩ := h
  obtain ⟨x, F, h1, h2⟩ := open_P_cells fuel _ _ hf
  exact ⟨x, cs.toList, F, by simp, h1, h2⟩
end Go.Proofs.Ytjejbdbfjiocoaa
