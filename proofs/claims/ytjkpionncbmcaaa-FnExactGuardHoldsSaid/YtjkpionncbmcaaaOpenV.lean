/-
  A Value that comes in as an argument lies in memory as the plain data say. Conditions: none.
-/
import Derived.Test.YtjkpionncbmcaaaV
import Derived.Test.YtjkpionncbmcaaaOpen
import Derived.Test.YtjkpionncbmcaaaChecked
namespace Go.Proofs.Ytjkpionncbmcaaa
open Go.ChangeShapes Go.WideShapes Go.ChangeAt Go.RowKit
set_option maxRecDepth 100000

theorem cellsOf_lawsV : Try.prog.cellsOf 26 = 3 := by kernel_rfl

theorem open_V_cells {H : Type} {enc : TypeId × Value → H} {w : World} {base : Nat} {spare : Nat → Bool} {held : Bool} (fuel : Nat) : ∀ (cs : List Value) (x : DataW H × List MemPlace),
    DataW.trod enc Try.prog w base spare held fuel 26 cs = some x → ∃ v F, VR w v cs F ∧ Under w.heap.size F := by
  induction fuel using Nat.strongRecOn with
  | ind fuel ih =>
  intro cs x h
  obtain ⟨xs, n, rfl, -, hl, hxl, hf⟩ := DataW.trod_struct Try.underlying26 h
  rw [cellsOf_lawsV] at hl
  match cs, hl with
  | [c0, c1, c2], _ =>
  obtain ⟨y, hq⟩ := one_field hf (by kernel_rfl) hxl 2 _ rfl c2 rfl
  obtain ⟨y0, f0⟩ := one_field hf (by kernel_rfl) hxl 0 _ rfl c0 rfl
  obtain ⟨i0, e0, -, -⟩ := DataW.trod_int Try.underlying3 f0
  obtain ⟨y1, f1⟩ := one_field hf (by kernel_rfl) hxl 1 _ rfl c1 rfl
  obtain ⟨i1, e1, -, -⟩ := DataW.trod_int Try.underlying3 f1
  simp only [List.cons.injEq, and_true] at e0 e1
  subst e0 e1
  cases n with
  | zero => simp [DataW.trod] at hq
  | succ n =>
    obtain ⟨ks, kv, F, ek, ha, hF⟩ := open_Arr (VR w) Try.underlying24 cellsOf_lawsV (by decide) rfl (fun ds y hd _ => ih n (by omega) ds y hd) hq
    simp only [List.cons.injEq, and_true] at ek
    subst ek
    exact ⟨⟨i0, i1, ks⟩, F, (VR_iff _ _ _).2 ⟨_, rfl, ha⟩, hF⟩

theorem open_V {H : Type} {enc : TypeId × Value → H} {w : World} {base : Nat} {spare : Nat → Bool} {held : Bool} {r : Reach} {b0 : Nat} {v : Value} {d : DataW H} {ps : List MemPlace} (hval : Value.okWide Try.prog w r b0 26 v)
    (h : DataW.Trod enc Try.prog w base spare held 26 v d ps) : ∃ (x : V) (cs : List Value) (F : List Nat), v = .agg cs.toArray ∧ VR w x cs F ∧ Under w.heap.size F := by
  obtain ⟨cs, rfl, -⟩ := okWide_struct Try.underlying26 hval
  obtain ⟨fuel, hf⟩ := h
  obtain ⟨x, F, h1, h2⟩ := open_V_cells fuel _ _ hf
  exact ⟨x, cs.toList, F, by simp, h1, h2⟩
end Go.Proofs.Ytjkpionncbmcaaa
