/-
  The cells of elements of slices that came in, in a later world. Conditions: none.
-/
import Derived.Test.YtddjhneoacnkgaaDt
import Derived.Test.YtddjhneoacnkgaaOwn
namespace Go.Proofs.Ytddjhneoacnkgaa
open Go.RowKit

theorem Arr.ptr {α : Type} {w : World} {R : α → List Value → List Nat → Prop} {xs : List α} {A : Option Addr} {n cap : Nat} {F : List Nat} (h : Arr w R xs (.slice A n cap) F) (h0 : 0 < xs.length) : ∃ b off, A = some ⟨b, off, none⟩ := by
  obtain ⟨A', cap', hv, h1, h2, h3⟩ := h
  cases hv
  rcases h3 with ⟨rfl, -⟩ | ⟨b, off, cs, G, rfl, -⟩
  · simp at h0
  · exact ⟨b, off, rfl⟩

section
variable {w0 w : World} {b off n cap : Nat} {F : List Nat}

theorem ArrTy.at {xs : List Ty} (h : Arr w0 (TyR w0) xs (.slice (some ⟨b, off, none⟩) n cap) F) (hF : Under w0.heap.size F) (hB : Below w0.heap.size w0 w) (i : Nat) (hi : i < xs.length) :
    b < w.heap.size ∧ w.cell? ⟨b, off + i * 2, none⟩ = some (.int .i64 xs[i].d) ∧ w.cell? ⟨b, off + i * 2 + 1, none⟩ = some (.int .i64 xs[i].i) := by
  obtain ⟨b', off', cs, G, e, hb, hcs, hv, hG⟩ := h.get TyR_len hi
  cases e
  have hbl := hF _ hb
  have hc := hcs.same (hB.block _ hbl)
  obtain rfl := TyR_form hv
  exact ⟨Nat.lt_of_lt_of_le hbl hB.size, hc 0 _ rfl, hc 1 _ rfl⟩

theorem ArrKt.at {xs : List Kt} (h : Arr w0 (KtR w0) xs (.slice (some ⟨b, off, none⟩) n cap) F) (hF : Under w0.heap.size F) (hB : Below w0.heap.size w0 w) (i : Nat) (hi : i < xs.length) :
    ∃ A1 cap1 G, b < w.heap.size ∧ w.cell? ⟨b, off + i * 3, none⟩ = some (.string xs[i].name) ∧ w.cell? ⟨b, off + i * 3 + 1, none⟩ = some (.slice A1 xs[i].args.length cap1) ∧ w.cell? ⟨b, off + i * 3 + 2, none⟩ = some (.int .i64 xs[i].idx) ∧
      Hid (Arr w0 (TyR w0) xs[i].args (.slice A1 xs[i].args.length cap1) G) ∧ Hid (Under w0.heap.size G) ∧ xs[i].name.size ≤ 9223372036854775807 ∧ xs[i].args.length ≤ cap1 ∧ cap1 ≤ 9223372036854775807 := by
  obtain ⟨b', off', cs, G, e, hb, hcs, hv, hG⟩ := h.get KtR_len hi
  cases e
  have hbl := hF _ hb
  have hc := hcs.same (hB.block _ hbl)
  obtain ⟨kv, rfl, ha, hs⟩ := hv
  obtain ⟨A1, cap1, rfl, h1, h2⟩ := ha.form
  exact ⟨A1, cap1, G, Nat.lt_of_lt_of_le hbl hB.size, hc 0 _ rfl, hc 1 _ rfl, hc 2 _ rfl, ha, hF.sub hG, hs, h1, h2⟩

theorem ArrKt.rep {xs : List Kt} (h : Arr w0 (KtR w0) xs (.slice (some ⟨b, off, none⟩) n cap) F) (hF : Under w0.heap.size F) (hB : Below w0.heap.size w0 w) (i : Nat) (hi : i < xs.length) :
    ∃ A1 cap1 G, b < w.heap.size ∧ w.cell? ⟨b, off + i * 3, none⟩ = some (.string xs[i].name) ∧ w.cell? ⟨b, off + i * 3 + 1, none⟩ = some (.slice A1 xs[i].args.length cap1) ∧ w.cell? ⟨b, off + i * 3 + 2, none⟩ = some (.int .i64 xs[i].idx) ∧
      Hid (KtR w0 xs[i] [.string xs[i].name, .slice A1 xs[i].args.length cap1, .int .i64 xs[i].idx] G) ∧ Hid (Under w0.heap.size G) ∧ xs[i].name.size ≤ 9223372036854775807 ∧ xs[i].args.length ≤ cap1 ∧ cap1 ≤ 9223372036854775807 := by
  obtain ⟨b', off', cs, G, e, hb, hcs, hv, hG⟩ := h.get KtR_len hi
  cases e
  have hbl := hF _ hb
  have hc := hcs.same (hB.block _ hbl)
  obtain ⟨kv, rfl, ha, hs⟩ := id hv
  obtain ⟨A1, cap1, rfl, h1, h2⟩ := ha.form
  exact ⟨A1, cap1, G, Nat.lt_of_lt_of_le hbl hB.size, hc 0 _ rfl, hc 1 _ rfl, hc 2 _ rfl, hv, hF.sub hG, hs, h1, h2⟩

theorem ArrDt.at {xs : List Dt} (h : Arr w0 (DtR w0) xs (.slice (some ⟨b, off, none⟩) n cap) F) (hF : Under w0.heap.size F) (hB : Below w0.heap.size w0 w) (i : Nat) (hi : i < xs.length) :
    ∃ A1 cap1 G, b < w.heap.size ∧ w.cell? ⟨b, off + i * 2, none⟩ = some (.string xs[i].name) ∧ w.cell? ⟨b, off + i * 2 + 1, none⟩ = some (.slice A1 xs[i].ctors.length cap1) ∧
      Hid (Arr w0 (KtR w0) xs[i].ctors (.slice A1 xs[i].ctors.length cap1) G) ∧ Hid (Under w0.heap.size G) ∧ xs[i].name.size ≤ 9223372036854775807 ∧ xs[i].ctors.length ≤ cap1 ∧ cap1 ≤ 9223372036854775807 := by
  obtain ⟨b', off', cs, G, e, hb, hcs, hv, hG⟩ := h.get DtR_len hi
  cases e
  have hbl := hF _ hb
  have hc := hcs.same (hB.block _ hbl)
  obtain ⟨kv, rfl, ha, hs⟩ := hv
  obtain ⟨A1, cap1, rfl, h1, h2⟩ := ha.form
  exact ⟨A1, cap1, G, Nat.lt_of_lt_of_le hbl hB.size, hc 0 _ rfl, hc 1 _ rfl, ha, hF.sub hG, hs, h1, h2⟩
end
end Go.Proofs.Ytddjhneoacnkgaa
