/-
  What a valid world is, step by step, in plain Lean. Conditions: none.
-/
import Derived.Test.YtddjhneoacnkgaaTwice
namespace Go.Proofs.Ytddjhneoacnkgaa
open Go.RowKit

def WInv (xs : List Dt) (d : Nat) : Prop := worldOk xs = worldGo xs.length ((xs.take d).map Dt.name) (ctorNames (xs.take d)) (xs.drop d)
def KInv (xs : List Dt) (d : Nat) (hd : d < xs.length) (k : Nat) : Prop :=
  worldOk xs = (ctorsSpec xs.length (nameIn ((xs.take d).map Dt.name) xs[d].name) (ctorNames (xs.take d) ++ (xs[d].ctors.take k).map Kt.name) (xs[d].ctors.drop k) && worldGo xs.length ((xs.take (d + 1)).map Dt.name) (ctorNames (xs.take (d + 1))) (xs.drop (d + 1)))
def KInvI (xs : List Dt) (d : Nat) (hd : d < xs.length) (k : Nat) : Prop :=
  worldOk xs = (ctorsGo xs.length (ctorNames (xs.take d) ++ (xs[d].ctors.take k).map Kt.name) (xs[d].ctors.drop k) && worldGo xs.length ((xs.take (d + 1)).map Dt.name) (ctorNames (xs.take (d + 1))) (xs.drop (d + 1)))
theorem WInv.zero {xs : List Dt} (h : xs.length ≤ 4) : WInv xs 0 := by
  unfold WInv worldOk
  rw [decide_eq_true (by omega), Bool.true_and]; rfl
theorem worldOk_long {xs : List Dt} (h : ¬ xs.length ≤ 4) : worldOk xs = false := by
  unfold worldOk
  rw [decide_eq_false (by omega), Bool.false_and]
theorem WInv.done {xs : List Dt} {d : Nat} (h : WInv xs d) (hd : xs.length ≤ d) : worldOk xs = true := by
  unfold WInv at h
  rw [h, List.drop_of_length_le hd]; rfl
theorem WInv.step {xs : List Dt} {d : Nat} (h : WInv xs d) (hd : d < xs.length) : worldOk xs = (dnameOk xs[d].name.data.toList && (!nameIn ((xs.take d).map Dt.name) xs[d].name && (withinB (xs[d].ctors.length : Int) 1 4 && (ctorsGo xs.length (ctorNames (xs.take d)) xs[d].ctors && worldGo xs.length ((xs.take (d + 1)).map Dt.name) (ctorNames (xs.take (d + 1))) (xs.drop (d + 1)))))) := by
  unfold WInv at h
  rw [h, List.drop_eq_getElem_cons hd, worldGo, take_snoc' xs d hd, List.map_append, ctorNames_snoc]; rfl
theorem WInv.bad1 {xs : List Dt} {d : Nat} (h : WInv xs d) (hd : d < xs.length) (e : dnameOk xs[d].name.data.toList = false) : worldOk xs = false := by
  rw [h.step hd, e]; rfl
theorem WInv.bad2 {xs : List Dt} {d : Nat} (h : WInv xs d) (hd : d < xs.length) (e : withinB (xs[d].ctors.length : Int) 1 4 = false) : worldOk xs = false := by
  rw [h.step hd, e, Bool.false_and, Bool.and_false, Bool.and_false]
theorem WInv.bad3 {xs : List Dt} {d : Nat} (h : WInv xs d) (hd : d < xs.length) (e : nameIn ((xs.take d).map Dt.name) xs[d].name = true) : worldOk xs = false := by
  rw [h.step hd, e, Bool.not_true, Bool.false_and, Bool.and_false]
theorem WInv.go {xs : List Dt} {d : Nat} (h : WInv xs d) (hd : d < xs.length) (e1 : dnameOk xs[d].name.data.toList = true) (e2 : withinB (xs[d].ctors.length : Int) 1 4 = true) : KInv xs d hd 0 := by
  unfold KInv
  have hne : xs[d].ctors ≠ [] := fun e => by
    rw [e] at e2
    simp [withinB] at e2
  rw [List.take_zero, List.map_nil, List.append_nil, List.drop_zero, ctorsSpec_eq _ _ _ _ hne, h.step hd, e1, e2, Bool.true_and, Bool.true_and, Bool.and_assoc]
theorem WInv.goI {xs : List Dt} {d : Nat} (h : WInv xs d) (hd : d < xs.length) (e1 : dnameOk xs[d].name.data.toList = true) (e2 : withinB (xs[d].ctors.length : Int) 1 4 = true) (e3 : nameIn ((xs.take d).map Dt.name) xs[d].name = false) : KInvI xs d hd 0 := by
  unfold KInvI
  rw [List.take_zero, List.map_nil, List.append_nil, List.drop_zero, h.step hd, e1, e2, e3, Bool.not_false, Bool.true_and, Bool.true_and, Bool.true_and]
theorem KInv.step {xs : List Dt} {d k : Nat} {hd : d < xs.length} (h : KInv xs d hd k) (hk : k < xs[d].ctors.length) :
    worldOk xs = ((ctorOkB xs.length xs[d].ctors[k] && (!twiceB (xs.take d) (xs[d].ctors.take k) xs[d].name xs[d].ctors[k].name && ctorsSpec xs.length (nameIn ((xs.take d).map Dt.name) xs[d].name) (ctorNames (xs.take d) ++ (xs[d].ctors.take (k + 1)).map Kt.name) (xs[d].ctors.drop (k + 1)))) && worldGo xs.length ((xs.take (d + 1)).map Dt.name) (ctorNames (xs.take (d + 1))) (xs.drop (d + 1))) := by
  unfold KInv at h
  rw [h, List.drop_eq_getElem_cons hk, ctorsSpec, take_snoc' _ k hk, List.map_append, ← List.append_assoc]; rfl
theorem KInv.bad1 {xs : List Dt} {d k : Nat} {hd : d < xs.length} (h : KInv xs d hd k) (hk : k < xs[d].ctors.length) (e : ctorOkB xs.length xs[d].ctors[k] = false) : worldOk xs = false := by
  rw [h.step hk, e]; rfl
theorem KInv.bad2 {xs : List Dt} {d k : Nat} {hd : d < xs.length} (h : KInv xs d hd k) (hk : k < xs[d].ctors.length) (e : twiceB (xs.take d) (xs[d].ctors.take k) xs[d].name xs[d].ctors[k].name = true) : worldOk xs = false := by
  rw [h.step hk, e, Bool.not_true, Bool.false_and, Bool.and_false, Bool.false_and]
theorem KInv.next {xs : List Dt} {d k : Nat} {hd : d < xs.length} (h : KInv xs d hd k) (hk : k < xs[d].ctors.length) (e1 : ctorOkB xs.length xs[d].ctors[k] = true) (e2 : twiceB (xs.take d) (xs[d].ctors.take k) xs[d].name xs[d].ctors[k].name = false) : KInv xs d hd (k + 1) := by
  have h' := h.step hk
  rw [e1, e2, Bool.not_false, Bool.true_and, Bool.true_and] at h'
  exact h'
theorem KInv.done {xs : List Dt} {d k : Nat} {hd : d < xs.length} (h : KInv xs d hd k) (hk : xs[d].ctors.length ≤ k) : WInv xs (d + 1) := by
  unfold KInv at h
  rw [List.drop_of_length_le hk, ctorsSpec, Bool.true_and] at h
  exact h
theorem KInvI.step {xs : List Dt} {d k : Nat} {hd : d < xs.length} (h : KInvI xs d hd k) (hk : k < xs[d].ctors.length) :
    worldOk xs = ((ctorOkB xs.length xs[d].ctors[k] && (!nameIn (ctorNames (xs.take d) ++ (xs[d].ctors.take k).map Kt.name) xs[d].ctors[k].name && ctorsGo xs.length (ctorNames (xs.take d) ++ (xs[d].ctors.take (k + 1)).map Kt.name) (xs[d].ctors.drop (k + 1)))) && worldGo xs.length ((xs.take (d + 1)).map Dt.name) (ctorNames (xs.take (d + 1))) (xs.drop (d + 1))) := by
  unfold KInvI at h
  rw [h, List.drop_eq_getElem_cons hk, ctorsGo, take_snoc' _ k hk, List.map_append, ← List.append_assoc]; rfl
theorem KInvI.bad1 {xs : List Dt} {d k : Nat} {hd : d < xs.length} (h : KInvI xs d hd k) (hk : k < xs[d].ctors.length) (e : ctorOkB xs.length xs[d].ctors[k] = false) : worldOk xs = false := by
  rw [h.step hk, e]; rfl
theorem KInvI.bad2 {xs : List Dt} {d k : Nat} {hd : d < xs.length} (h : KInvI xs d hd k) (hk : k < xs[d].ctors.length) (e : nameIn (ctorNames (xs.take d) ++ (xs[d].ctors.take k).map Kt.name) xs[d].ctors[k].name = true) : worldOk xs = false := by
  rw [h.step hk, e, Bool.not_true, Bool.false_and, Bool.and_false, Bool.false_and]
theorem KInvI.next {xs : List Dt} {d k : Nat} {hd : d < xs.length} (h : KInvI xs d hd k) (hk : k < xs[d].ctors.length) (e1 : ctorOkB xs.length xs[d].ctors[k] = true) (e2 : nameIn (ctorNames (xs.take d) ++ (xs[d].ctors.take k).map Kt.name) xs[d].ctors[k].name = false) : KInvI xs d hd (k + 1) := by
  have h' := h.step hk
  rw [e1, e2, Bool.not_false, Bool.true_and, Bool.true_and] at h'
  exact h'
theorem KInvI.done {xs : List Dt} {d k : Nat} {hd : d < xs.length} (h : KInvI xs d hd k) (hk : xs[d].ctors.length ≤ k) : WInv xs (d + 1) := by
  unfold KInvI at h
  rw [List.drop_of_length_le hk, ctorsGo, Bool.true_and] at h
  exact h
end Go.Proofs.Ytddjhneoacnkgaa
