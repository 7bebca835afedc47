/-
  Lemmas and contracts of functions: All values of a type up to a depth, in plain Lean; how many there are; lists cut off. Conditions: none. Sweeps over a table of least depths reach a fixed point: as many as there are entries and one more are enough. Conditions: the world is valid. The constructors that can make values of a type, in plain Lean. Conditions: none. Least depths in plain Lean: the least depth of a type is that of a constructor; any index is no deeper than a given one. Conditions: the world is valid. Least values, in plain Lean. Conditions: the world is valid. Contracts of the two functions DepthOf. Conditions: at most 1048576 parts. Contracts of the two functions CompareValues and of what they call. Conditions: none. ValueSame of the reference: equality of Values. Conditions: none. The values of a type up to a depth: they are its values, all of them, in order, and those of less depth are among them. Conditions: the world is valid. Writing every part of a datum anew (mark) and reading it back (held): what changes in memory. Conditions: none. A node of a tree under construction: its cells lie in a block, its kids are appended one by one. Conditions: none. l2Fits of the reference: a value fits a type. Conditions: the world is valid, the depth is no more than 10. The law of append on slices of the call's own, at a step of a region that draws its order. Conditions: none. A node of a tree under construction, as in Kid: its kids' row may begin anywhere behind the node. Values as nodes. Conditions: none. Patterns as Lean data, and how they lie in memory. Conditions: none. The pattern that only a value matches, in plain Lean. Conditions: none. Regions that draw their order: a load may be taken first whose cell is written in the region, if what writes it waits for the load (operation d, which comes after the load). Conditions: none. The pattern of a value: the walks of both functions. Conditions: no more than a million nodes. Copies of values: the contract. Conditions: none. ValuesUpTo: what it gives. Conditions: none. How many values a type has up to a depth, as the program counts them. Conditions: the world is valid.
-/
import Derived.Test.YtilndhmegaccmaaKAB
import Derived.Test.YtilndhmegaccmaaKAA
import Derived.Test.YtilndhmegaccmaaChecked
import Derived.Deep.RegionHeld3
import Derived.Deep.RegionWith
import Derived.BigQuiet
import Derived.Deep.QuietTactic
import Derived.IntWalk

set_option linter.unusedVariables false
set_option linter.unusedSimpArgs false

namespace Go.Proofs.Ytilndhmegaccmaa
open Go.RowKit

def numV (n : Nat) : V := ⟨-1, (n : Int), []⟩
def numsL (k : Nat) : List V := (List.range k).map numV
theorem numsL_succ (k : Nat) : numsL (k + 1) = numsL k ++ [numV k] := by unfold numsL; rw [List.range_succ, List.map_append]; rfl
theorem numsL_len (k : Nat) : (numsL k).length = k := by unfold numsL; rw [List.length_map, List.length_range]
/-- v with each of kids behind its own -/
def growK (c : Int) (v : V) (kids : List V) : List V := kids.map fun k => ⟨c, 0, v.ks ++ [k]⟩
theorem growK_len (c : Int) (v : V) (kids : List V) : (growK c v kids).length = kids.length := List.length_map _
def growTo (c : Int) (list kids : List V) (p : Nat) : List V := (list.take p).flatMap fun v => growK c v kids
def growV (c : Int) (list kids : List V) : List V := list.flatMap fun v => growK c v kids
theorem growTo_zero (c : Int) (list kids : List V) : growTo c list kids 0 = [] := rfl
theorem growTo_all (c : Int) (list kids : List V) {p : Nat} (h : list.length ≤ p) : growTo c list kids p = growV c list kids := by unfold growTo growV; rw [List.take_of_length_le h]
theorem growTo_succ (c : Int) (list kids : List V) (p : Nat) (h : p < list.length) : growTo c list kids (p + 1) = growTo c list kids p ++ growK c list[p] kids := by
  unfold growTo
  rw [take_snoc' list p h, List.flatMap_append]
  simp
theorem growK_succ (c : Int) (v : V) (kids : List V) (q : Nat) (h : q < kids.length) : growK c v (kids.take (q + 1)) = growK c v (kids.take q) ++ [⟨c, 0, v.ks ++ [kids[q]]⟩] := by
  unfold growK
  rw [take_snoc' kids q h, List.map_append]
  rfl
theorem growV_len (c : Int) (list kids : List V) : (growV c list kids).length = list.length * kids.length := by
  unfold growV
  induction list with
  | nil => simp
  | cons v l ih => rw [List.flatMap_cons, List.length_append, ih, growK_len, List.length_cons, Nat.succ_mul]; omega
theorem growTo_len (c : Int) (list kids : List V) (p : Nat) (h : p ≤ list.length) : (growTo c list kids p).length = p * kids.length := by
  have := growV_len c (list.take p) kids
  rw [List.length_take, Nat.min_eq_left h] at this
  exact this
def growAll (c : Int) (ls : List (List V)) : List V := ls.foldl (growV c) [⟨c, 0, []⟩]
theorem growAll_snoc (c : Int) (ls : List (List V)) (l : List V) : growAll c (ls ++ [l]) = growV c (growAll c ls) l := by unfold growAll; rw [List.foldl_append]; rfl
def valsL (xs : List Dt) : Nat → Ty → List V
  | 0, _ => []
  | d + 1, t => if t.d = -1 then numsL 10 else (ctorsL xs t).flatMap fun c => growAll c ((argsOf xs t c).map (valsL xs d))
theorem valsL_zero (xs : List Dt) (t : Ty) : valsL xs 0 t = [] := rfl
theorem valsL_int {xs : List Dt} {d : Nat} {t : Ty} (h : t.d = -1) : valsL xs (d + 1) t = numsL 10 := by rw [valsL, if_pos h]
/-- the lists of the first j arguments, combined -/
def argTo (xs : List Dt) (d : Nat) (c : Int) (as' : List Ty) (j : Nat) : List V := growAll c ((as'.take j).map (valsL xs d))
theorem argTo_zero (xs : List Dt) (d : Nat) (c : Int) (as' : List Ty) : argTo xs d c as' 0 = [⟨c, 0, []⟩] := rfl
theorem argTo_succ (xs : List Dt) (d : Nat) (c : Int) (as' : List Ty) (j : Nat) (h : j < as'.length) : argTo xs d c as' (j + 1) = growV c (argTo xs d c as' j) (valsL xs d as'[j]) := by
  unfold argTo
  rw [take_snoc' as' j h, List.map_append, List.map_cons, List.map_nil, growAll_snoc]
def blockL (xs : List Dt) (d : Nat) (t : Ty) (c : Int) : List V := growAll c ((argsOf xs t c).map (valsL xs d))
theorem argTo_all (xs : List Dt) (d : Nat) (t : Ty) (c : Int) {j : Nat} (h : (argsOf xs t c).length ≤ j) : argTo xs d c (argsOf xs t c) j = blockL xs d t c := by unfold argTo blockL; rw [List.take_of_length_le h]
def valsTo (xs : List Dt) (d : Nat) (t : Ty) (i : Nat) : List V := ((ctorsL xs t).take i).flatMap (blockL xs d t)
theorem valsTo_zero (xs : List Dt) (d : Nat) (t : Ty) : valsTo xs d t 0 = [] := rfl
theorem valsTo_succ (xs : List Dt) (d : Nat) (t : Ty) (i : Nat) (h : i < (ctorsL xs t).length) : valsTo xs d t (i + 1) = valsTo xs d t i ++ blockL xs d t (ctorsL xs t)[i] := by
  unfold valsTo
  rw [take_snoc' _ i h, List.flatMap_append]
  simp
theorem valsTo_all {xs : List Dt} {d : Nat} {t : Ty} (h : ¬ t.d = -1) {i : Nat} (hi : (ctorsL xs t).length ≤ i) : valsTo xs d t i = valsL xs (d + 1) t := by
  unfold valsTo
  rw [List.take_of_length_le hi, valsL, if_neg h]
  rfl
theorem flatMap_take_len {α β : Type} (f : α → List β) (l : List α) (i : Nat) : ((l.take i).flatMap f).length ≤ (l.flatMap f).length := by
  conv => rhs; rw [← List.take_append_drop i l, List.flatMap_append, List.length_append]
  omega
theorem valsTo_len {xs : List Dt} {d : Nat} {t : Ty} (h : ¬ t.d = -1) (i : Nat) : (valsTo xs d t i).length ≤ (valsL xs (d + 1) t).length := by
  rw [← valsTo_all h (Nat.le_refl _)]
  unfold valsTo
  rw [List.take_length]
  exact flatMap_take_len _ _ _
theorem blockL_len {xs : List Dt} {d : Nat} {t : Ty} (h : ¬ t.d = -1) {i : Nat} (hi : i < (ctorsL xs t).length) : (valsTo xs d t i).length + (blockL xs d t (ctorsL xs t)[i]).length ≤ (valsL xs (d + 1) t).length := by
  have := valsTo_len (xs := xs) (d := d) h (i + 1)
  rw [valsTo_succ _ _ _ _ hi, List.length_append] at this
  exact this
theorem argTo_len_succ (xs : List Dt) (d : Nat) (c : Int) (as' : List Ty) (j : Nat) (h : j < as'.length) : (argTo xs d c as' (j + 1)).length = (argTo xs d c as' j).length * (valsL xs d as'[j]).length := by rw [argTo_succ _ _ _ _ _ h, growV_len]
/-- some argument has no value -/
def noneB (xs : List Dt) (d : Nat) (as' : List Ty) : Bool := as'.any fun a => (valsL xs d a).length == 0
theorem argTo_none {xs : List Dt} {d : Nat} {c : Int} {as' : List Ty} : ∀ {k j : Nat} (hk : k < as'.length), (valsL xs d as'[k]).length = 0 → k < j → j ≤ as'.length → argTo xs d c as' j = [] := by
  intro k j hk h0 hkj hj
  induction j with
  | zero => omega
  | succ j ih =>
    have hl := argTo_len_succ xs d c as' j (by omega)
    rcases Nat.lt_or_ge k j with h | h
    · rw [ih h (by omega)] at hl
      simp at hl
      exact hl
    · obtain rfl : k = j := by omega
      rw [h0, Nat.mul_zero] at hl
      exact List.length_eq_zero_iff.1 hl
theorem blockL_none {xs : List Dt} {d : Nat} {t : Ty} {c : Int} (h : noneB xs d (argsOf xs t c) = true) : blockL xs d t c = [] := by
  unfold noneB at h
  rw [List.any_eq_true] at h
  obtain ⟨a, ha, h⟩ := h
  obtain ⟨k, hk, rfl⟩ := List.getElem_of_mem ha
  rw [beq_iff_eq] at h
  rw [← argTo_all xs d t c (Nat.le_refl _)]
  exact argTo_none hk h hk (Nat.le_refl _)
theorem noneB_pos {xs : List Dt} {d : Nat} {as' : List Ty} (h : noneB xs d as' = false) {j : Nat} (hj : j < as'.length) : 0 < (valsL xs d as'[j]).length := by
  unfold noneB at h
  rw [List.any_eq_false] at h
  have := h as'[j] (List.getElem_mem hj)
  simp only [beq_iff_eq] at this
  omega
theorem argTo_mono {xs : List Dt} {d : Nat} {c : Int} {as' : List Ty} (h : noneB xs d as' = false) : ∀ (k j : Nat), j + k ≤ as'.length → (argTo xs d c as' j).length ≤ (argTo xs d c as' (j + k)).length := by
  intro k
  induction k with
  | zero => intro j _; exact Nat.le_refl _
  | succ k ih =>
    intro j hj
    have h1 := ih j (by omega)
    have h2 := argTo_len_succ xs d c as' (j + k) (by omega)
    have h3 := noneB_pos h (j := j + k) (by omega)
    rw [show j + (k + 1) = j + k + 1 by omega, h2]
    exact Nat.le_trans h1 (Nat.le_mul_of_pos_right _ h3)
theorem argTo_pos {xs : List Dt} {d : Nat} {c : Int} {as' : List Ty} (h : noneB xs d as' = false) (j : Nat) (hj : j ≤ as'.length) : 0 < (argTo xs d c as' j).length := by
  have := argTo_mono (c := c) h j 0 (by omega)
  rw [argTo_zero, Nat.zero_add] at this
  exact this
theorem argTo_le {xs : List Dt} {d : Nat} {t : Ty} {c : Int} (h : noneB xs d (argsOf xs t c) = false) (j : Nat) : (argTo xs d c (argsOf xs t c) j).length ≤ (blockL xs d t c).length := by
  rcases Nat.lt_or_ge j (argsOf xs t c).length with hj | hj
  · have := argTo_mono (c := c) h ((argsOf xs t c).length - j) j (by omega)
    rw [argTo_all xs d t c (show (argsOf xs t c).length ≤ j + ((argsOf xs t c).length - j) by omega)] at this
    exact this
  · rw [argTo_all xs d t c hj]; exact Nat.le_refl _
theorem kid_le {xs : List Dt} {d : Nat} {t : Ty} {c : Int} (h : noneB xs d (argsOf xs t c) = false) {j : Nat} (hj : j < (argsOf xs t c).length) : (valsL xs d (argsOf xs t c)[j]).length ≤ (blockL xs d t c).length := by
  have h1 := argTo_le (c := c) h (j + 1)
  rw [argTo_len_succ _ _ _ _ _ hj] at h1
  exact Nat.le_trans (Nat.le_mul_of_pos_left _ (argTo_pos h j (by omega))) h1
/-- what the combined values are made of -/
def Headed (c : Int) (j : Nat) (l : List V) : Prop := ∀ v ∈ l, v.c = c ∧ v.n = 0 ∧ v.ks.length = j
theorem growV_headed {c : Int} {j : Nat} {list kids : List V} (h : Headed c j list) : Headed c (j + 1) (growV c list kids) := fun v hv => by
  obtain ⟨u, hu, hv⟩ := List.mem_flatMap.1 hv
  obtain ⟨k, hk, rfl⟩ := List.mem_map.1 hv
  exact ⟨rfl, rfl, by have := (h u hu).2.2; simp [this]⟩
theorem argTo_headed (xs : List Dt) (d : Nat) (c : Int) (as' : List Ty) : ∀ j, j ≤ as'.length → Headed c j (argTo xs d c as' j) := by
  intro j
  induction j with
  | zero => intro _ v hv; rw [argTo_zero, List.mem_singleton] at hv; subst hv; exact ⟨rfl, rfl, rfl⟩
  | succ j ih => intro h; rw [argTo_succ _ _ _ _ _ (by omega)]; exact growV_headed (ih (by omega))

/-- a number, at most one more than the greatest length of a list -/
def capN (n : Nat) : Nat := min n 401
theorem capN_le (n : Nat) : capN n ≤ 401 := Nat.min_le_right _ _
theorem capN_mul (a b : Nat) : min (capN a * capN b) 401 = capN (a * b) := by
  unfold capN
  rcases Nat.lt_or_ge a 401 with ha | ha
  · rcases Nat.lt_or_ge b 401 with hb | hb
    · rw [Nat.min_eq_left (Nat.le_of_lt ha), Nat.min_eq_left (Nat.le_of_lt hb)]
    · rw [Nat.min_eq_left (Nat.le_of_lt ha), Nat.min_eq_right hb]
      rcases Nat.eq_zero_or_pos a with rfl | h0
      · simp
      · have h1 : 401 ≤ a * 401 := Nat.le_mul_of_pos_left _ h0
        have h2 : 401 ≤ a * b := Nat.le_trans hb (Nat.le_mul_of_pos_left _ h0)
        omega
  · rw [Nat.min_eq_right ha]
    rcases Nat.eq_zero_or_pos b with rfl | h0
    · simp
    · have h1 : 401 ≤ 401 * min b 401 := Nat.le_mul_of_pos_right _ (by omega)
      have h2 : 401 ≤ a * b := Nat.le_trans ha (Nat.le_mul_of_pos_right _ h0)
      omega
theorem capN_add (a b : Nat) : min (capN a + capN b) 401 = capN (a + b) := by unfold capN; omega
theorem capN_zero (a : Nat) : capN a = 0 ↔ a = 0 := by unfold capN; omega
theorem capN_big (a : Nat) : 400 < capN a ↔ 400 < a := by unfold capN; omega
def cntU (xs : List Dt) (d : Nat) (t : Ty) : Nat := capN (valsL xs d t).length
def cntArg (xs : List Dt) (d : Nat) (as' : List Ty) (j : Nat) : Nat := capN (argTo xs d 0 as' j).length
theorem argTo_len_any (xs : List Dt) (d : Nat) (c c' : Int) (as' : List Ty) : ∀ j, j ≤ as'.length → (argTo xs d c as' j).length = (argTo xs d c' as' j).length := by
  intro j
  induction j with
  | zero => intro _; rfl
  | succ j ih => intro h; rw [argTo_len_succ _ _ _ _ _ (by omega), argTo_len_succ _ _ _ _ _ (by omega), ih (by omega)]
theorem cntArg_zero (xs : List Dt) (d : Nat) (as' : List Ty) : cntArg xs d as' 0 = 1 := rfl
theorem cntArg_succ (xs : List Dt) (d : Nat) (as' : List Ty) (j : Nat) (h : j < as'.length) : cntArg xs d as' (j + 1) = min (cntArg xs d as' j * cntU xs d as'[j]) 401 := by
  unfold cntArg cntU
  rw [capN_mul, argTo_len_succ _ _ _ _ _ h]
theorem cntArg_le (xs : List Dt) (d : Nat) (as' : List Ty) (j : Nat) : cntArg xs d as' j ≤ 401 := capN_le _
def cntTo (xs : List Dt) (d : Nat) (t : Ty) (i : Nat) : Nat := capN (valsTo xs d t i).length
theorem cntTo_zero (xs : List Dt) (d : Nat) (t : Ty) : cntTo xs d t 0 = 0 := rfl
theorem cntTo_succ (xs : List Dt) (d : Nat) (t : Ty) (i : Nat) (h : i < (ctorsL xs t).length) {j : Nat} (hj : (argsOf xs t (ctorsL xs t)[i]).length = j) : cntTo xs d t (i + 1) = min (cntTo xs d t i + cntArg xs d (argsOf xs t (ctorsL xs t)[i]) j) 401 := by
  unfold cntTo cntArg
  rw [capN_add, valsTo_succ _ _ _ _ h, List.length_append, argTo_len_any xs d 0 (ctorsL xs t)[i] _ j (by omega), argTo_all xs d t _ (by omega)]
theorem cntTo_all {xs : List Dt} {d : Nat} {t : Ty} (h : ¬ t.d = -1) {i : Nat} (hi : (ctorsL xs t).length ≤ i) : cntTo xs d t i = cntU xs (d + 1) t := by unfold cntTo cntU; rw [valsTo_all h hi]
theorem cntTo_le (xs : List Dt) (d : Nat) (t : Ty) (i : Nat) : cntTo xs d t i ≤ 401 := capN_le _
theorem cntU_zero (xs : List Dt) (t : Ty) : cntU xs 0 t = 0 := rfl
theorem cntU_int {xs : List Dt} {d : Nat} {t : Ty} (h : t.d = -1) : cntU xs (d + 1) t = 10 := by unfold cntU; rw [valsL_int h, numsL_len]; rfl
theorem cntU_le (xs : List Dt) (d : Nat) (t : Ty) : cntU xs d t ≤ 401 := capN_le _
theorem cntU_none (xs : List Dt) (d : Nat) (t : Ty) : ((cntU xs d t : Int) == 0) = ((valsL xs d t).length == 0) := by
  rw [Bool.eq_iff_iff, beq_iff_eq, beq_iff_eq]
  have := capN_zero (valsL xs d t).length
  unfold cntU
  omega
theorem cntU_big (xs : List Dt) (d : Nat) (t : Ty) : 400 < cntU xs d t ↔ 400 < (valsL xs d t).length := capN_big _

/-- the first 401 -/
def cutV {α : Type} (l : List α) : List α := l.take 401
theorem cutV_len {α : Type} (l : List α) : (cutV l).length ≤ 401 := by unfold cutV; rw [List.length_take]; omega
theorem cutV_short {α : Type} {l : List α} (h : l.length ≤ 401) : cutV l = l := List.take_of_length_le h
theorem cutV_not {α : Type} {l : List α} (h : (cutV l).length ≤ 400) : cutV l = l := by
  unfold cutV at h ⊢
  rw [List.length_take] at h
  exact List.take_of_length_le (by omega)
theorem cutV_snoc {α : Type} {l : List α} (h : (cutV l).length ≤ 400) (x : α) : cutV l ++ [x] = cutV (l ++ [x]) := by
  have h1 := cutV_not h
  rw [h1] at h ⊢
  rw [cutV_short (by rw [List.length_append, List.length_singleton]; omega)]
theorem cutV_full {α : Type} {l : List α} (h : ¬ (cutV l).length ≤ 400) (m : List α) : cutV l = cutV (l ++ m) := by
  unfold cutV at h ⊢
  rw [List.length_take] at h
  rw [List.take_append_of_le_length (by omega)]
theorem take_app_left {α : Type} (n : Nat) (X Y : List α) : (X.take n ++ Y).take n = (X ++ Y).take n := by
  rw [List.take_append, List.take_append, List.take_take, Nat.min_self, List.length_take]
  rcases Nat.lt_or_ge n X.length with h | h
  · rw [Nat.min_eq_left (by omega), show n - n = 0 by omega, show n - X.length = 0 by omega]
  · rw [Nat.min_eq_right h]
theorem take_app_right {α : Type} (n : Nat) (X Y : List α) : (X ++ Y.take n).take n = (X ++ Y).take n := by
  rw [List.take_append, List.take_append, List.take_take, Nat.min_eq_left (by omega)]
theorem take_flatMap_each {α β : Type} (n : Nat) (g : α → List β) : ∀ A : List α, (A.flatMap fun o => (g o).take n).take n = (A.flatMap g).take n
  | [] => rfl
  | a :: A => by
    rw [List.flatMap_cons, List.flatMap_cons, take_app_left, ← take_app_right, take_flatMap_each n g A, take_app_right]
theorem take_flatMap_few {α β : Type} (g : α → List β) (hg : ∀ o, g o ≠ []) : ∀ (A : List α) (n m : Nat), n ≤ m → ((A.take m).flatMap g).take n = (A.flatMap g).take n
  | [], n, m, _ => by simp
  | a :: A, n, m, h => by
    cases m with
    | zero => obtain rfl : n = 0 := by omega
              simp
    | succ m =>
      have h1 : 0 < (g a).length := List.length_pos_iff.2 (hg a)
      rw [List.take_succ_cons, List.flatMap_cons, List.flatMap_cons, List.take_append, List.take_append]
      congr 1
      exact take_flatMap_few g hg A _ _ (by omega)
/-- lists, each with each of l behind it -/
def pairK (o : List V) (l : List V) : List (List V) := l.map fun k => o ++ [k]
def pairL (A : List (List V)) (l : List V) : List (List V) := A.flatMap fun o => pairK o l
def pairAll (ls : List (List V)) : List (List V) := ls.foldl pairL [[]]
theorem pair_cut (A : List (List V)) (l : List V) : cutV (pairL (cutV A) (cutV l)) = cutV (pairL A l) := by
  have h1 : cutV (pairL (cutV A) (cutV l)) = cutV (pairL (cutV A) l) := by
    have := take_flatMap_each 401 (fun o => pairK o l) (cutV A)
    unfold cutV pairL
    unfold cutV at this
    rw [← this]
    congr 2
    funext o
    unfold pairK
    rw [List.map_take]
  rw [h1]
  by_cases hl : l = []
  · subst hl
    have h0 : ∀ A : List (List V), pairL A [] = [] := fun A => by unfold pairL pairK; simp
    rw [h0, h0]
  · exact take_flatMap_few (fun o => pairK o l) (fun o e => hl (by unfold pairK at e; simpa using e)) A 401 401 (Nat.le_refl _)
theorem pairFold_cut : ∀ (ls : List (List V)) (A : List (List V)), cutV ((ls.map cutV).foldl pairL A) = cutV (ls.foldl pairL A) ∧ ∀ B, cutV A = cutV B → cutV (ls.foldl pairL A) = cutV (ls.foldl pairL B)
  | [], A => ⟨rfl, fun B h => h⟩
  | l :: ls, A => by
    have hcong : ∀ A B, cutV A = cutV B → cutV (pairL A l) = cutV (pairL B l) := fun A B h => by rw [← pair_cut A, h, pair_cut B]
    have hc2 : cutV (pairL A (cutV l)) = cutV (pairL A l) := by
      rw [← pair_cut A (cutV l), ← pair_cut A l]
      congr 2
      unfold cutV
      rw [List.take_take]
      rfl
    refine ⟨?_, fun B h => ?_⟩
    · rw [List.map_cons, List.foldl_cons, List.foldl_cons, (pairFold_cut ls _).1]
      exact (pairFold_cut ls _).2 _ hc2
    · rw [List.foldl_cons, List.foldl_cons]
      exact (pairFold_cut ls _).2 _ (hcong A B h)
theorem pairAll_cut (ls : List (List V)) : cutV (pairAll (ls.map cutV)) = cutV (pairAll ls) := (pairFold_cut ls [[]]).1
def headV (c : Int) (ks : List V) : V := ⟨c, 0, ks⟩
theorem growV_pair (c : Int) (A : List (List V)) (l : List V) : growV c (A.map (headV c)) l = (pairL A l).map (headV c) := by
  unfold growV pairL
  rw [List.map_flatMap, List.flatMap_map]
  congr 1
  funext o
  unfold growK pairK headV
  rw [List.map_map]
  rfl
theorem growAll_pairs (c : Int) (ls : List (List V)) : growAll c ls = (pairAll ls).map (headV c) := by
  have h : ∀ (ls : List (List V)) (A : List (List V)), ls.foldl (growV c) (A.map (headV c)) = (ls.foldl pairL A).map (headV c) := by
    intro ls
    induction ls with
    | nil => intro A; rfl
    | cons l ls ih => intro A; rw [List.foldl_cons, List.foldl_cons, growV_pair, ih]
  exact h ls [[]]
end Go.Proofs.Ytilndhmegaccmaa

namespace Go.Proofs.Ytilndhmegaccmaa
open Go.RowKit
open Classical

/-- from level n on no further type gets a value -/
def Stable (xs : List Dt) (n : Nat) : Prop := ∀ s, s < xs.length * 4 → hasD xs (n + 1) (tyAt s) → hasD xs n (tyAt s)
theorem stable_step {xs : List Dt} (hw : WorldOK xs) {n : Nat} (hn : 1 ≤ n) (h : Stable xs n) : Stable xs (n + 1) := by
  intro s hs hh
  rcases hh with hh | ⟨k, hk, ha⟩
  · exact .inl hh
  · refine .inr ⟨k, hk, fun a hm => ?_⟩
    have hai := argsOf_in hw (tyAt_in hs) hk hm
    by_cases e : a.d = -1
    · obtain ⟨m, rfl⟩ : ∃ m, n = m + 1 := ⟨n - 1, by omega⟩
      exact .inl e
    · obtain ⟨q1, q2⟩ := hai.slot e
      have := h _ q1 (by rw [q2]; exact ha a hm)
      rwa [q2] at this
noncomputable def lvl (xs : List Dt) (n : Nat) : Nat := ((List.range (xs.length * 4)).filter fun s => decide (hasD xs n (tyAt s))).length
theorem filter_lt {p q : Nat → Bool} : ∀ (l : List Nat), (∀ x ∈ l, p x = true → q x = true) → (∃ x ∈ l, q x = true ∧ p x = false) → (l.filter p).length < (l.filter q).length
  | [], _, h => by obtain ⟨x, hx, -⟩ := h; cases hx
  | y :: l, h, ⟨x, hx, h1, h2⟩ => by
    have hle : ∀ l : List Nat, (∀ x ∈ l, p x = true → q x = true) → (l.filter p).length ≤ (l.filter q).length := by
      intro l
      induction l with
      | nil => intro _; exact Nat.le_refl _
      | cons z l ih =>
        intro hl
        have := ih fun x hx => hl x (by simp [hx])
        have hz := hl z (by simp)
        cases hp : p z with
        | true => rw [List.filter_cons_of_pos hp, List.filter_cons_of_pos (hz hp)]; simp only [List.length_cons]; omega
        | false =>
          rw [List.filter_cons_of_neg (by simp [hp])]
          cases hq : q z with
          | true => rw [List.filter_cons_of_pos hq]; simp only [List.length_cons]; omega
          | false => rw [List.filter_cons_of_neg (by simp [hq])]; exact this
    have hrest := hle l fun x hx => h x (by simp [hx])
    rcases List.mem_cons.1 hx with rfl | hx
    · rw [List.filter_cons_of_neg (by simp [h2]), List.filter_cons_of_pos h1]; simp only [List.length_cons]; omega
    · have ih := filter_lt l (fun x hx => h x (by simp [hx])) ⟨x, hx, h1, h2⟩
      have hy := h y (by simp)
      cases hp : p y with
      | true => rw [List.filter_cons_of_pos hp, List.filter_cons_of_pos (hy hp)]; simp only [List.length_cons]; omega
      | false =>
        rw [List.filter_cons_of_neg (by simp [hp])]
        cases hq : q y with
        | true => rw [List.filter_cons_of_pos hq]; simp only [List.length_cons]; omega
        | false => rw [List.filter_cons_of_neg (by simp [hq])]; exact ih
theorem lvl_lt {xs : List Dt} {n : Nat} (h : ¬ Stable xs n) : lvl xs n < lvl xs (n + 1) := by
  unfold Stable at h
  obtain ⟨s, h⟩ := Classical.not_forall.1 h
  obtain ⟨hs, h⟩ := Classical.not_imp.1 h
  obtain ⟨h1, h2⟩ := Classical.not_imp.1 h
  unfold lvl
  refine filter_lt _ (fun x _ hx => ?_) ⟨s, List.mem_range.2 hs, by simp [h1], by simp [h2]⟩
  simp only [decide_eq_true_eq] at hx ⊢
  exact hasD_mono hx
theorem lvl_le (xs : List Dt) (n : Nat) : lvl xs n ≤ xs.length * 4 := by
  unfold lvl
  exact Nat.le_trans (List.length_filter_le _ _) (by simp)
theorem stable_ex {xs : List Dt} : ∀ n, (∃ m, 1 ≤ m ∧ m ≤ n ∧ Stable xs m) ∨ n ≤ lvl xs (n + 1)
  | 0 => .inr (Nat.zero_le _)
  | n + 1 => by
    rcases stable_ex (xs := xs) n with ⟨m, h1, h2, h3⟩ | h
    · exact .inl ⟨m, h1, by omega, h3⟩
    · by_cases hs : Stable xs (n + 1)
      · exact .inl ⟨n + 1, by omega, Nat.le_refl _, hs⟩
      · have := lvl_lt hs
        exact .inr (by omega)
theorem stable_max {xs : List Dt} (hw : WorldOK xs) : Stable xs (xs.length * 4 + 1) := by
  rcases stable_ex (xs := xs) (xs.length * 4 + 1) with ⟨m, h1, h2, h3⟩ | h
  · have key : ∀ k, m ≤ k → Stable xs k := by
      intro k hk
      induction hk with
      | refl => exact h3
      | step hk ih => exact stable_step hw (Nat.le_trans h1 hk) ih
    exact key _ h2
  · have := lvl_le xs (xs.length * 4 + 1 + 1)
    omega
theorem hasD_max {xs : List Dt} (hw : WorldOK xs) {s : Nat} (hs : s < xs.length * 4) : ∀ {n : Nat}, hasD xs n (tyAt s) → hasD xs (xs.length * 4 + 1) (tyAt s) := by
  have hst : ∀ k, Stable xs (xs.length * 4 + 1 + k) := by
    intro k
    induction k with
    | zero => exact stable_max hw
    | succ k ih => exact stable_step hw (n := xs.length * 4 + 1 + k) (by omega) ih
  have down : ∀ k, hasD xs (xs.length * 4 + 1 + k) (tyAt s) → hasD xs (xs.length * 4 + 1) (tyAt s) := by
    intro k
    induction k with
    | zero => exact id
    | succ k ih => exact fun h => ih (hst k s hs h)
  intro n h
  exact down n (hasD_le h (by omega))

theorem list_ext {a b : List Int} (hl : a.length = b.length) (h : ∀ s, s < a.length → a.getD s 0 = b.getD s 0) : a = b := by
  refine List.ext_getElem hl fun s h1 h2 => ?_
  have := h s h1
  simpa [List.getD, List.getElem?_eq_getElem h1, List.getElem?_eq_getElem h2] using this
theorem tableL_fix {xs : List Dt} (hw : WorldOK xs) : sweep xs (tableL xs) = tableL xs := by
  refine list_ext (by show (sweeps xs (_ + 1)).length = (sweeps xs _).length; rw [sweeps_length, sweeps_length]) fun s hs => ?_
  have hs : s < xs.length * 4 := Nat.lt_of_lt_of_eq hs (sweeps_length xs (xs.length * 4 + 1 + 1))
  show (sweeps xs (xs.length * 4 + 1 + 1)).getD s 0 = (sweeps xs (xs.length * 4 + 1)).getD s 0
  have s1 := sound_sweeps hw (xs.length * 4 + 1)
  have s2 := sound_sweeps hw (xs.length * 4 + 1 + 1)
  have d1 := done_sweeps hw (xs.length * 4 + 1) s hs
  by_cases h0 : (sweeps xs (xs.length * 4 + 1)).getD s 0 = 0
  · by_cases h1 : (sweeps xs (xs.length * 4 + 1 + 1)).getD s 0 = 0
    · rw [h0, h1]
    · exact absurd h0 (d1 (hasD_max hw hs (s2.has s hs h1))).1
  · have l := le_sweeps (xs := xs) (xs.length * 4 + 1) s h0
    have hv := s2.has s hs l.1
    have hb := (d1 (hasD_max hw hs (s1.has s hs h0))).2
    have hp := s2.pos s
    have hd := done_sweeps hw _ s hs hv
    have hl := le_sweeps' (xs := xs) (n := ((sweeps xs (xs.length * 4 + 1 + 1)).getD s 0).toNat) (m := xs.length * 4 + 1) (by omega) s hd.1
    omega
theorem sweeps_from {xs : List Dt} {m : Nat} (h : sweep xs (sweeps xs m) = sweeps xs m) : ∀ k, sweeps xs (m + k) = sweeps xs m
  | 0 => rfl
  | k + 1 => by show sweep xs (sweeps xs (m + k)) = _; rw [sweeps_from h k, h]
/-- a fixed point that is reached is the table -/
theorem fix_table {xs : List Dt} (hw : WorldOK xs) {m : Nat} (h : sweep xs (sweeps xs m) = sweeps xs m) : sweeps xs m = tableL xs := by
  rcases Nat.le_total m (xs.length * 4 + 1) with hm | hm
  · obtain ⟨k, hk⟩ := Nat.exists_eq_add_of_le hm
    have := sweeps_from h k
    rw [← hk] at this
    exact this.symm
  · obtain ⟨k, hk⟩ := Nat.exists_eq_add_of_le hm
    rw [hk]
    exact sweeps_from (tableL_fix hw) k
theorem moved_le {xs : List Dt} (hw : WorldOK xs) {m : Nat} (h : sweep xs (sweeps xs m) ≠ sweeps xs m) : m ≤ xs.length * 4 := by
  rcases Nat.lt_or_ge (xs.length * 4) m with hm | hm
  · obtain ⟨k, hk⟩ := Nat.exists_eq_add_of_le (show xs.length * 4 + 1 ≤ m by omega)
    refine absurd ?_ h
    have e : sweeps xs m = tableL xs := by rw [hk]; exact sweeps_from (tableL_fix hw) k
    rw [e]; exact tableL_fix hw
  · exact hm

/-- a table differs from the one that a sweep began with -/
def movedB (t cur : List Int) : Bool := !(cur == t)
theorem movedB_refl (t : List Int) : movedB t t = false := by unfold movedB; simp
theorem movedB_put {t cur : List Int} (h : Le t cur) {s : Nat} (hs : s < cur.length) {n : Int} (hb : better cur s n = true) (hp : 0 ≤ cur.getD s 0) : movedB t (putIf cur s n) = true := by
  have hne : putIf cur s n ≠ t := fun e => by
    obtain ⟨h1, h2⟩ := better_iff.1 hb
    have hv : (putIf cur s n).getD s 0 = n := by
      unfold putIf
      rw [if_pos hb, getD_set _ _ _ _ hs, if_pos rfl]
    rw [e] at hv
    by_cases h0 : t.getD s 0 = 0
    · omega
    · have := h s h0
      omega
  unfold movedB
  simp [hne]
theorem movedB_not {cur : List Int} {s : Nat} {n : Int} (hb : better cur s n = false) : putIf cur s n = cur := by unfold putIf; rw [if_neg (by simp [hb])]
theorem putIf_yes {cur : List Int} {s : Nat} {n : Int} (hb : better cur s n = true) : putIf cur s n = cur.set s n := if_pos hb
theorem movedB_iff {t cur : List Int} : movedB t cur = false ↔ cur = t := by unfold movedB; simp
/-- what LeastDepth gives -/
def depthL (xs : List Dt) (t : Ty) : Int := if typeValidB xs t = true then depthIn (tableL xs) t else 0
end Go.Proofs.Ytilndhmegaccmaa

namespace Go.Proofs.Ytilndhmegaccmaa
open Go.RowKit

theorem fitTo_mem {cs : List Kt} {i : Int} {m k : Nat} (hm : m ≤ cs.length) : (k : Int) ∈ fitTo cs i m ↔ ∃ h : k < m, fitsB (cs[k]'(by omega)) i = true := by
  unfold fitTo
  rw [List.mem_map]
  constructor
  · rintro ⟨j, hj, e⟩
    have e : j = k := Int.ofNat.inj e
    subst e
    obtain ⟨h1, h2⟩ := List.mem_filter.1 hj
    have hjm : j < m := by simpa using h1
    refine ⟨hjm, ?_⟩
    unfold fitAt at h2
    rw [List.getElem?_eq_getElem (by omega)] at h2
    exact h2
  · rintro ⟨h, hf⟩
    refine ⟨k, List.mem_filter.2 ⟨by simpa using h, ?_⟩, rfl⟩
    unfold fitAt
    rw [List.getElem?_eq_getElem (by omega)]
    exact hf
theorem hasB_ctors {xs : List Dt} {d k : Nat} {i : Int} (hd : d < xs.length) (hk : k < xs[d].ctors.length) : hasB (ctorsL xs ⟨(d : Int), i⟩) (k : Int) = fitsB xs[d].ctors[k] i := by
  rw [Bool.eq_iff_iff, hasB_iff, ctorsL_data hd, fitTo_mem (Nat.le_refl _)]
  exact ⟨fun ⟨_, h⟩ => h, fun h => ⟨hk, h⟩⟩
/-- constructors with an index are among those with any -/
theorem ctorsL_any {xs : List Dt} {t : Ty} {n : Int} (ht : InWorld xs.length t) (h : n ∈ ctorsL xs t) : n ∈ ctorsL xs ⟨t.d, 0⟩ := by
  obtain ⟨d, k, h1, rfl, hd, hk⟩ := mem_ctorsL ht h
  obtain ⟨t1, t2⟩ := t
  simp only at h1
  subst h1
  rw [ctorsL_data hd, fitTo_mem (Nat.le_refl _)]
  refine ⟨hk, ?_⟩
  unfold fitsB
  simp
theorem fitTo_lt (cs : List Kt) (i : Int) : ∀ n, ∀ x ∈ fitTo cs i n, x < (n : Int) := by
  intro n x hx
  obtain ⟨k, rfl, hk⟩ := mem_fitTo hx
  omega
/-- they ascend -/
theorem fitTo_sorted (cs : List Kt) (i : Int) (n : Nat) (hn : n ≤ cs.length) : ∀ a (ha : a + 1 < (fitTo cs i n).length), (fitTo cs i n)[a] < (fitTo cs i n)[a + 1] := by
  induction n with
  | zero => intro a ha; simp [fitTo] at ha
  | succ n ih =>
    intro a ha
    have hs := fitTo_succ cs i n (by omega)
    cases hf : fitsB cs[n] i with
    | false =>
      rw [hf] at hs
      simp only [Bool.false_eq_true, if_false] at hs
      simp only [hs] at ha ⊢
      exact ih (by omega) a ha
    | true =>
      rw [hf] at hs
      simp only [if_true] at hs
      simp only [hs] at ha ⊢
      rw [List.length_append, List.length_singleton] at ha
      rcases Nat.lt_or_ge (a + 1) (fitTo cs i n).length with h | h
      · rw [List.getElem_append_left (by omega), List.getElem_append_left h]
        exact ih (by omega) a h
      · rw [List.getElem_append_left (by omega), List.getElem_append_right (by omega)]
        have := fitTo_lt cs i n _ (List.getElem_mem (show a < (fitTo cs i n).length by omega))
        simp only [show a + 1 - (fitTo cs i n).length = 0 by omega, List.getElem_cons_zero]
        omega
theorem ctorsL_sorted {xs : List Dt} {t : Ty} (ht : InWorld xs.length t) : ∀ a (ha : a + 1 < (ctorsL xs t).length), (ctorsL xs t)[a] < (ctorsL xs t)[a + 1] := by
  rcases ht with hd | ⟨d, hd, hdl⟩
  · intro a ha
    have := ctorsL_int (xs := xs) hd
    simp only [this] at ha
    simp at ha
  · obtain ⟨t1, t2⟩ := t
    simp only at hd
    subst hd
    have e := ctorsL_data (i := t2) hdl
    intro a ha
    simp only [e] at ha ⊢
    exact fitTo_sorted _ _ _ (Nat.le_refl _) a ha
end Go.Proofs.Ytilndhmegaccmaa

namespace Go.Proofs.Ytilndhmegaccmaa
open Go.RowKit

theorem tableL_done {xs : List Dt} (hw : WorldOK xs) (n : Nat) : Done xs (tableL xs) n := fun s hs h => by
  rcases Nat.le_total n (xs.length * 4 + 1) with hn | hn
  · exact (done_sweeps hw n).le (le_sweeps' hn) s hs h
  · have := done_sweeps hw (xs.length * 4 + 1) s hs (hasD_max hw hs h)
    exact ⟨this.1, by have h2 := this.2; show (sweeps xs (xs.length * 4 + 1)).getD s 0 ≤ (n : Int); omega⟩
theorem depthIn_done {xs : List Dt} (hw : WorldOK xs) {a : Ty} (ha : TyIn xs.length a) {n : Nat} (h : hasD xs n a) : depthIn (tableL xs) a ≠ 0 ∧ depthIn (tableL xs) a ≤ n := by
  have hn : 1 ≤ n := by
    cases n with
    | zero => exact h.elim
    | succ n => omega
  by_cases e : a.d = -1
  · unfold depthIn
    rw [if_pos e]
    omega
  · obtain ⟨h1, h2⟩ := ha.slot e
    have := tableL_done hw n (slotOf a) h1 (by rw [h2]; exact h)
    unfold depthIn
    rw [if_neg e]
    exact this
theorem sound_tableL {xs : List Dt} (hw : WorldOK xs) : Sound xs (tableL xs) := sound_sweeps hw _
theorem mostIn_nonneg {xs : List Dt} (hw : WorldOK xs) (t : Ty) (k : Int) : 0 ≤ mostIn xs (tableL xs) t k := by
  have key : ∀ (ls : List Ty) (m : Int), 0 ≤ m → 0 ≤ mostGo (tableL xs) m ls := by
    intro ls
    induction ls with
    | nil => intro m h; simp only [mostGo]; omega
    | cons a ls ih =>
      intro m h
      simp only [mostGo]
      split
      · omega
      · exact ih _ (by omega)
  exact key _ _ (Int.le_refl _)
theorem least_le {xs : List Dt} (hw : WorldOK xs) {t : Ty} (ht : TyIn xs.length t) {k : Int} (hk : k ∈ ctorsL xs t) (hm : mostIn xs (tableL xs) t k ≠ 0) : depthIn (tableL xs) t ≠ 0 ∧ depthIn (tableL xs) t ≤ mostIn xs (tableL xs) t k := by
  have hs := sound_tableL hw
  have hne := mostGo_ne hm
  have hp := mostGo_pos hs.dpos (Int.le_refl 0) hne
  have h0 : 0 < mostIn xs (tableL xs) t k := hp.1
  have := depthIn_done hw ht (n := (mostIn xs (tableL xs) t k - 1).toNat + 1) (.inr ⟨k, hk, fun a ha => by
    refine hasD_le (hs.dhas (argsOf_in hw ht hk ha) (hne a ha)) ?_
    have := hp.2 a ha
    have h2 : mostGo (tableL xs) 0 (argsOf xs t k) = mostIn xs (tableL xs) t k := rfl
    omega⟩)
  exact ⟨this.1, by have h2 := this.2; omega⟩
theorem least_ex {xs : List Dt} (hw : WorldOK xs) {t : Ty} (ht : TyIn xs.length t) (hd : ¬ t.d = -1) (h : depthIn (tableL xs) t ≠ 0) : ∃ k ∈ ctorsL xs t, mostIn xs (tableL xs) t k ≠ 0 ∧ mostIn xs (tableL xs) t k ≤ depthIn (tableL xs) t := by
  have hs := sound_tableL hw
  have h0 := hs.dpos t
  have hh := hs.dhas ht h
  obtain ⟨m, hm⟩ : ∃ m, (depthIn (tableL xs) t).toNat = m + 1 := ⟨(depthIn (tableL xs) t).toNat - 1, by omega⟩
  rw [hm] at hh
  rcases hh with hh | ⟨k, hk, ha⟩
  · exact absurd hh hd
  · have hall : ∀ a ∈ argsOf xs t k, depthIn (tableL xs) a ≠ 0 ∧ depthIn (tableL xs) a ≤ (m : Int) := fun a hm => depthIn_done hw (argsOf_in hw ht hk hm) (ha a hm)
    have h1 : mostIn xs (tableL xs) t k ≤ (m : Int) + 1 := mostGo_le (by omega) hall
    have h2 : 0 < mostIn xs (tableL xs) t k := (mostGo_pos hs.dpos (Int.le_refl 0) fun a ha => (hall a ha).1).1
    exact ⟨k, hk, by omega, by omega⟩

/-! ### The least of some numbers, where 0 stands for none -/
def bestOf (b m : Int) : Int := if m ≠ 0 ∧ (b = 0 ∨ m < b) then m else b
def bestTo (ms : List Int) : Int := ms.foldl bestOf 0
theorem bestTo_snoc (ms : List Int) (m : Int) : bestTo (ms ++ [m]) = bestOf (bestTo ms) m := by unfold bestTo; rw [List.foldl_append]; rfl
theorem bestTo_spec : ∀ (ms : List Int), (∀ m ∈ ms, 0 ≤ m) → ((bestTo ms = 0 ∧ ∀ m ∈ ms, m = 0) ∨ (bestTo ms ∈ ms ∧ 0 < bestTo ms ∧ ∀ m ∈ ms, m ≠ 0 → bestTo ms ≤ m)) := by
  have key : ∀ (r ms : List Int), ms = r.reverse → (∀ m ∈ ms, 0 ≤ m) → ((bestTo ms = 0 ∧ ∀ m ∈ ms, m = 0) ∨ (bestTo ms ∈ ms ∧ 0 < bestTo ms ∧ ∀ m ∈ ms, m ≠ 0 → bestTo ms ≤ m)) := by
    intro r
    induction r with
    | nil => intro ms e _; subst e; exact .inl ⟨rfl, fun m hm => by cases hm⟩
    | cons x r ih =>
      intro ms e hp
      rw [List.reverse_cons] at e
      subst e
      have hpx := hp x (by simp)
      have ih := ih _ rfl fun m hm => hp m (by simp at hm ⊢; simp [hm])
      rw [bestTo_snoc]
      unfold bestOf
      rcases ih with ⟨h1, h2⟩ | ⟨h1, h2, h3⟩
      · by_cases hx : x = 0
        · left
          rw [if_neg (by omega)]
          exact ⟨h1, fun m hm => by
            rcases List.mem_append.1 hm with h | h
            · exact h2 m h
            · rw [List.mem_singleton] at h; omega⟩
        · right
          rw [if_pos ⟨hx, .inl h1⟩]
          exact ⟨by simp, by omega, fun m hm hm0 => by
            rcases List.mem_append.1 hm with h | h
            · exact absurd (h2 m h) hm0
            · rw [List.mem_singleton] at h; omega⟩
      · right
        split
        · rename_i hc
          exact ⟨by simp, by omega, fun m hm hm0 => by
            rcases List.mem_append.1 hm with h | h
            · have := h3 m h hm0; omega
            · rw [List.mem_singleton] at h; omega⟩
        · rename_i hc
          exact ⟨List.mem_append.2 (.inl h1), h2, fun m hm hm0 => by
            rcases List.mem_append.1 hm with h | h
            · exact h3 m h hm0
            · rw [List.mem_singleton] at h; subst h; omega⟩
  intro ms hp
  exact key ms.reverse ms (by simp) hp
theorem best_least {xs : List Dt} (hw : WorldOK xs) {t : Ty} (ht : TyIn xs.length t) (hd : ¬ t.d = -1) : bestTo ((ctorsL xs t).map (mostIn xs (tableL xs) t)) = depthIn (tableL xs) t := by
  have hp : ∀ m ∈ (ctorsL xs t).map (mostIn xs (tableL xs) t), 0 ≤ m := fun m hm => by
    obtain ⟨k, -, rfl⟩ := List.mem_map.1 hm
    exact mostIn_nonneg hw t k
  have h0 := (sound_tableL hw).dpos t
  rcases bestTo_spec _ hp with ⟨h1, h2⟩ | ⟨h1, h2, h3⟩
  · rw [h1]
    by_cases e : depthIn (tableL xs) t = 0
    · exact e.symm
    · obtain ⟨k, hk, hk0, -⟩ := least_ex hw ht hd e
      exact absurd (h2 _ (List.mem_map.2 ⟨k, hk, rfl⟩)) hk0
  · obtain ⟨k, hk, e⟩ := List.mem_map.1 h1
    have l1 := least_le hw ht hk (by omega)
    obtain ⟨k2, hk2, hk20, hk2l⟩ := least_ex hw ht hd l1.1
    have := h3 _ (List.mem_map.2 ⟨k2, hk2, rfl⟩) hk20
    omega

/-! ### Any index is no deeper -/
theorem hasD_wide {xs : List Dt} (hw : WorldOK xs) : ∀ (n : Nat) (t : Ty), TyIn xs.length t → hasD xs n t → hasD xs n ⟨t.d, 0⟩
  | 0, _, _, h => h
  | n + 1, t, ht, h => by
    rcases h with h | ⟨k, hk, ha⟩
    · exact .inl h
    · refine .inr ⟨k, ctorsL_any ht.inWorld hk, fun a hm => ?_⟩
      obtain ⟨d, m, h1, rfl, hd, hml⟩ := mem_ctorsL ht.inWorld hk
      have hin := fun a ha => argsOf_in hw ht hk (a := a) ha
      obtain ⟨t1, t2⟩ := t
      simp only at h1
      subst h1
      rw [argsOf_get hd hml] at hm
      rw [argsOf_get hd hml] at ha hin
      unfold argsL at hm ha hin
      obtain ⟨b, hb, rfl⟩ := List.mem_map.1 hm
      have hb2 := ha _ (List.mem_map.2 ⟨b, hb, rfl⟩)
      have hb3 := hin _ (List.mem_map.2 ⟨b, hb, rfl⟩)
      cases q : (b.i == -1) with
      | false =>
        rw [argTy_no q] at hb2 ⊢
        exact hb2
      | true =>
        rw [argTy_yes q] at hb2 hb3 ⊢
        unfold resIdx at hb2 hb3 ⊢
        split
        · rename_i hz
          rw [if_pos hz] at hb2 hb3
          exact hasD_wide hw n ⟨b.d, t2⟩ hb3 hb2
        · rename_i hz
          rw [if_neg hz] at hb2
          exact hb2
theorem depth_wide {xs : List Dt} (hw : WorldOK xs) {t : Ty} (ht : TyIn xs.length t) (h : depthIn (tableL xs) t ≠ 0) : depthIn (tableL xs) ⟨t.d, 0⟩ ≠ 0 ∧ depthIn (tableL xs) ⟨t.d, 0⟩ ≤ depthIn (tableL xs) t := by
  have hs := sound_tableL hw
  have ht0 : TyIn xs.length ⟨t.d, 0⟩ := by
    rcases ht with h | ⟨d, i, rfl, h1, h2⟩
    · exact .inl h
    · exact .inr ⟨d, 0, rfl, h1, by omega⟩
  have := depthIn_done hw ht0 (hasD_wide hw _ _ ht (hs.dhas ht h))
  have h0 := hs.dpos t
  exact ⟨this.1, by have h2 := this.2; omega⟩
end Go.Proofs.Ytilndhmegaccmaa

namespace Go.Proofs.Ytilndhmegaccmaa
open Go.RowKit

def isLeast (xs : List Dt) (t : Ty) (k : Int) : Bool := mostIn xs (tableL xs) t k == depthIn (tableL xs) t
def leastV (xs : List Dt) : Nat → Ty → V
  | 0, _ => ⟨0, 0, []⟩
  | n + 1, t => if t.d = -1 then ⟨-1, 0, []⟩ else match (ctorsL xs t).find? (isLeast xs t) with
    | none => ⟨0, 0, []⟩
    | some k => ⟨k, 0, (argsOf xs t k).map (leastV xs n)⟩
theorem leastV_int {xs : List Dt} {n : Nat} {t : Ty} (h : t.d = -1) : leastV xs (n + 1) t = ⟨-1, 0, []⟩ := by rw [leastV, if_pos h]
theorem leastV_none {xs : List Dt} {n : Nat} {t : Ty} (h : ¬ t.d = -1) (h2 : (ctorsL xs t).find? (isLeast xs t) = none) : leastV xs (n + 1) t = ⟨0, 0, []⟩ := by rw [leastV, if_neg h, h2]
theorem leastV_some {xs : List Dt} {n : Nat} {t : Ty} {k : Int} (h : ¬ t.d = -1) (h2 : (ctorsL xs t).find? (isLeast xs t) = some k) : leastV xs (n + 1) t = ⟨k, 0, (argsOf xs t k).map (leastV xs n)⟩ := by rw [leastV, if_neg h, h2]
theorem find_step {p : Int → Bool} {l : List Int} {i : Nat} (h : i < l.length) : (l.drop i).find? p = if p l[i] = true then some l[i] else (l.drop (i + 1)).find? p := by
  rw [List.drop_eq_getElem_cons h, List.find?_cons]
  cases p l[i] <;> simp
theorem find_end {p : Int → Bool} {l : List Int} {i : Nat} (h : l.length ≤ i) : (l.drop i).find? p = none := by
  rw [List.drop_of_length_le h]; rfl
/-- the arguments of a least constructor are less deep -/
theorem least_args {xs : List Dt} (hw : WorldOK xs) {t : Ty} (ht : TyIn xs.length t) {k : Int} (hk : k ∈ ctorsL xs t) (hl : isLeast xs t k = true) (h0 : depthIn (tableL xs) t ≠ 0) {a : Ty} (ha : a ∈ argsOf xs t k) :
    TyIn xs.length a ∧ depthIn (tableL xs) a ≠ 0 ∧ depthIn (tableL xs) a + 1 ≤ depthIn (tableL xs) t := by
  have e : mostIn xs (tableL xs) t k = depthIn (tableL xs) t := by unfold isLeast at hl; exact eq_of_beq hl
  have hs := sound_tableL hw
  have hne := mostGo_ne (tab := tableL xs) (ls := argsOf xs t k) (m := 0) (by show mostIn xs (tableL xs) t k ≠ 0; rw [e]; exact h0)
  have hp := (mostGo_pos hs.dpos (Int.le_refl 0) hne).2 a ha
  have h2 : mostGo (tableL xs) 0 (argsOf xs t k) = mostIn xs (tableL xs) t k := rfl
  exact ⟨argsOf_in hw ht hk ha, hne a ha, by omega⟩
theorem argsOf_len3 {xs : List Dt} (hw : WorldOK xs) {t : Ty} (ht : TyIn xs.length t) {k : Int} (hk : k ∈ ctorsL xs t) : (argsOf xs t k).length ≤ 3 := by
  rcases ht with h | ⟨d, i, rfl, h1, h2⟩
  · rw [ctorsL_int h] at hk; cases hk
  · obtain ⟨d', m, e1, rfl, hd, hm⟩ := mem_ctorsL (.inr ⟨d, rfl, h1⟩) hk
    obtain rfl : d = d' := Int.ofNat.inj e1
    rw [argsOf_get hd hm, argsL_len]
    exact (hw.ctor hd hm).args
theorem sizes_map_le {α : Type} (f : α → V) (b : Nat) : ∀ (l : List α), (∀ a ∈ l, nodes (f a) ≤ b) → V.sizes (l.map f) ≤ l.length * b
  | [], _ => by simp [V.sizes]
  | a :: l, h => by
    have h1 := h a (by simp)
    have h2 := sizes_map_le f b l fun x hx => h x (by simp [hx])
    simp only [List.map_cons, V.sizes, List.length_cons]
    unfold nodes at h1
    rw [Nat.add_mul]
    omega
theorem leastV_nodes {xs : List Dt} (hw : WorldOK xs) : ∀ (n : Nat) (t : Ty), TyIn xs.length t → nodes (leastV xs n t) ≤ 4 ^ n
  | 0, t, _ => by simp [leastV, nodes, V.size, V.sizes]
  | n + 1, t, ht => by
    have hp : 1 ≤ 4 ^ n := Nat.one_le_pow _ _ (by omega)
    have h4 : 4 ^ (n + 1) = 4 ^ n * 4 := Nat.pow_succ ..
    by_cases hd : t.d = -1
    · rw [leastV_int hd]; simp [nodes, V.size, V.sizes]; omega
    · cases hf : (ctorsL xs t).find? (isLeast xs t) with
      | none => rw [leastV_none hd hf]; simp [nodes, V.size, V.sizes]; omega
      | some k =>
        rw [leastV_some hd hf]
        have hk := List.mem_of_find?_eq_some hf
        have h1 := sizes_map_le (leastV xs n) (4 ^ n) (argsOf xs t k) fun a ha => leastV_nodes hw n a (argsOf_in hw ht hk ha)
        have h3 := argsOf_len3 hw ht hk
        have h5 : (argsOf xs t k).length * 4 ^ n ≤ 3 * 4 ^ n := Nat.mul_le_mul_right _ h3
        rw [nodes_ks]
        simp only
        omega
theorem leastV_small {xs : List Dt} (hw : WorldOK xs) {n : Nat} (hn : n ≤ 10) {t : Ty} (ht : TyIn xs.length t) : (leastV xs n t).size ≤ 1048576 := by
  have h1 := leastV_nodes hw n t ht
  have h2 : 4 ^ n ≤ 4 ^ 10 := Nat.pow_le_pow_right (by omega) hn
  have h3 : (4 : Nat) ^ 10 = 1048576 := by decide
  unfold nodes at h1
  omega
/-- the kids made so far -/
def leastTo (xs : List Dt) (n : Nat) (as' : List Ty) (i : Nat) : List V := (as'.take i).map (leastV xs n)
theorem leastTo_succ (xs : List Dt) (n : Nat) (l : List Ty) (i : Nat) (h : i < l.length) : leastTo xs n l (i + 1) = leastTo xs n l i ++ [leastV xs n l[i]] := by
  unfold leastTo
  rw [take_snoc' l i h, List.map_append]; rfl
theorem leastTo_all (xs : List Dt) (n : Nat) (l : List Ty) {i : Nat} (h : l.length ≤ i) : leastTo xs n l i = l.map (leastV xs n) := by unfold leastTo; rw [List.take_of_length_le h]
theorem leastTo_len (xs : List Dt) (n : Nat) (l : List Ty) (i : Nat) : (leastTo xs n l i).length ≤ i := by unfold leastTo; rw [List.length_map, List.length_take]; omega
/-- what LeastValue gives -/
def leastFine (xs : List Dt) (t : Ty) : Bool := typeValidB xs t && (withinB (depthIn (tableL xs) t) 1 10 && valueOkB xs t (leastV xs 10 t))
def leastR (xs : List Dt) (t : Ty) : V := if leastFine xs t = true then leastV xs 10 t else ⟨0, 0, []⟩
theorem leastR_size (xs : List Dt) (t : Ty) : (leastR xs t).size ≤ 60 := by
  unfold leastR
  split
  · rename_i h
    unfold leastFine valueOkB nodes at h
    simp only [Bool.and_eq_true, decide_eq_true_eq] at h
    omega
  · simp [V.size, V.sizes]
end Go.Proofs.Ytilndhmegaccmaa

namespace Go.Proofs.Ytilndhmegaccmaa
open Go.RowKit

mutual
def V.depth : V → Nat
  | ⟨_, _, ks⟩ => V.depths ks + 1
def V.depths : List V → Nat
  | [] => 0
  | k :: ks => max (V.depth k) (V.depths ks)
end
theorem V.depths_snoc (l : List V) (x : V) : V.depths (l ++ [x]) = max (V.depths l) x.depth := by
  induction l with
  | nil => simp [V.depths]
  | cons k l ih => simp only [List.cons_append, V.depths, ih]; omega
theorem V.depths_le (ks : List V) (h : ∀ k ∈ ks, V.depth k ≤ V.size k + 1) : V.depths ks ≤ V.sizes ks := by
  induction ks with
  | nil => simp [V.depths]
  | cons k ks ih =>
    simp only [V.depths, V.sizes]
    have h1 := h k (by simp)
    have h2 := ih fun x hx => h x (by simp [hx])
    omega
theorem V.depth_le : ∀ v : V, v.depth ≤ v.size + 1 := V.ind fun c n ks ih => by
  simp only [V.depth, V.size]
  have := V.depths_le ks ih
  omega
theorem V.depths_take_succ (l : List V) (k : Nat) (h : k < l.length) : V.depths (l.take (k + 1)) = max (V.depths (l.take k)) l[k].depth := by
  rw [take_snoc' l k h, V.depths_snoc]
theorem V.sizes_mem (l : List V) (k : Nat) (h : k < l.length) : l[k].size + 1 ≤ V.sizes l := by
  have := V.size_lt l k h
  omega
theorem V.depths_take_le (l : List V) (k : Nat) : V.depths (l.take k) ≤ V.sizes l := by
  have h1 := V.depths_le (l.take k) (fun x _ => V.depth_le x)
  have h2 := V.sizes_eq (l.take k)
  have h3 := V.subs_take_le l k
  have h4 := V.sizes_eq l
  simp at h2
  omega



def DepthImpl (v : V) : Prop := ∀ (w : World) (cs : List Value) (F : List Nat), VR w v cs F → Under w.heap.size F → v.size ≤ 1048576 →
  Calls Try.prog 30 #[.agg cs.toArray] w fun e w' => e = .returned (.int .i64 v.depth) ∧ Below w.heap.size w w'

set_option maxHeartbeats 400000 in
theorem impl_DepthOf_all : ∀ v, DepthImpl v := V.ind fun c n ks ih w cs F hv hF hz => by
  obtain ⟨kv, rfl, hk⟩ := (VR_iff _ _ _).1 hv
  have hz' : V.sizes ks ≤ 1048576 := hz
  have hn : ks.length ≤ 1048576 := by rw [V.sizes_eq] at hz'; omega
  have HZ := Lib.hid hz'
  clear hz hz'
  have IH := Lib.hid ih
  clear ih hv
  obtain ⟨A, cap, rfl, -, -⟩ := hk.form
  have HK := Lib.hid hk
  clear hk
  have HF := Lib.hid hF
  clear hF
  go_enter Try.func30, Try.ntmps30
  go_wp2
  have hB0 : Below w.heap.size w (w.alloc (.cells #[.int .i64 c, .int .i64 n, .slice A ks.length cap] 53)) := (Below.refl _ _).alloc (Nat.le_refl _) _
  go_loopw [3, 9] (fun m i wr => ∃ k d : Nat, k ≤ ks.length ∧ i = .int .i64 k ∧ m = .int .i64 d ∧ d ≤ 1048576 ∧ Hid (d = V.depths (ks.take k)) ∧ Below w.heap.size w wr) (fun _ i _ => ks.length - (intOf i).toNat)
  case atStart => exact ⟨0, 0, Nat.zero_le _, rfl, rfl, by omega, by simp [Hid, V.depths], hB0⟩
  case round =>
    obtain ⟨k, d, hk, rfl, rfl, hd, HD, hB⟩ := hrel
    clear hB0
    by_cases hlt : k < ks.length
    · obtain ⟨b, off, cs, G, rfl, hb, hcs, hv, hG⟩ := HK.out.get VR_len hlt
      have hbl := HF.out b hb
      have hGF := HF.out.sub hG
      have hv1 := hv.below hB hGF
      have hcs1 := hcs.same (hB.block b hbl)
      obtain ⟨kv, rfl, ha⟩ := (VR_iff _ _ _).1 hv
      obtain ⟨A', cap', rfl, -, -⟩ := ha.form
      have c0 := hcs1 0 _ rfl
      have c1 := hcs1 1 _ rfl
      have c2 := hcs1 2 _ rfl
      simp only [Nat.add_zero] at c0
      clear hcs hcs1 hv hG ha
      have HV := Lib.hid hv1
      clear hv1
      have HG := Lib.hid hGF
      clear hGF
      go_wp2_with fail
      have hB1 := hB.alloc hB.size (.cells #[.int .i64 ks[k].c, .int .i64 ks[k].n, .slice A' ks[k].ks.length cap'] 53)
      refine (IH.out _ (List.getElem_mem hlt) _ _ G (HV.out.below ((Below.refl wr.heap.size wr).alloc (Nat.le_refl _) _) (HG.out.mono hB.size)) (HG.out.mono hB1.size) (by have := V.sizes_mem ks k hlt; have := HZ.out; omega)).mono ?_
      rintro e w' ⟨rfl, hB'⟩
      have hB2 := hB1.trans (hB'.mono hB1.size)
      have hs := V.depths_take_succ ks k hlt
      have hle : ks[k].depth ≤ 1048576 := by have := V.depth_le ks[k]; have := V.sizes_mem ks k hlt; have := HZ.out; omega
      have HS : Hid (max d ks[k].depth = V.depths (ks.take (k + 1))) := by rw [hs, ← HD.out]; rfl
      clear hs
      generalize ks[k].depth = e at *
      have hme : max d e ≤ 1048576 := by omega
      by_cases hde : d < e
      · have HS2 : Hid (e = V.depths (ks.take (k + 1))) := by rw [← HS.out]; unfold Hid; omega
        clear HS
        go_wp2
        go_roundw
        case rel => exact ⟨k + 1, e, by omega, by go_num, rfl, hle, HS2, hB2⟩
        case measure => simp [intOf]; omega
      · have HS2 : Hid (d = V.depths (ks.take (k + 1))) := by rw [← HS.out]; unfold Hid; omega
        clear HS
        go_wp2
        go_roundw
        case rel => exact ⟨k + 1, d, by omega, by go_num, rfl, hd, HS2, hB2⟩
        case measure => simp [intOf]; omega
    · have HS : Hid (((d : Int) + 1) = ((V.depth ⟨c, n, ks⟩ : Nat) : Int)) := by
        have := HD.out
        rw [List.take_of_length_le (by omega)] at this
        simp only [V.depth, Hid]; omega
      go_wp2
      go_ret
      exact ⟨ret_int HS.out, hB⟩
theorem impl_DepthOf (v : V) (w : World) (cs : List Value) (F : List Nat) (hv : VR w v cs F) (hF : Under w.heap.size F) (hz : v.size ≤ 1048576) :
    Calls Try.prog 30 #[.agg cs.toArray] w fun e w' => e = .returned (.int .i64 v.depth) ∧ Below w.heap.size w w' := impl_DepthOf_all v w cs F hv hF hz
end Go.Proofs.Ytilndhmegaccmaa

namespace Go.Proofs.Ytilndhmegaccmaa
open Go.RowKit

def lessI (a b : Int) : Int := if a < b then -1 else if b < a then 1 else 0
theorem lessI_lt {a b : Int} (h : a < b) : lessI a b = -1 := if_pos h
theorem lessI_gt {a b : Int} (h : b < a) : lessI a b = 1 := by unfold lessI; rw [if_neg (by omega), if_pos h]
theorem lessI_eq (a : Int) : lessI a a = 0 := by unfold lessI; simp
mutual
def V.cmp : V → V → Int
  | ⟨c, n, ks⟩, ⟨c', n', ks'⟩ => if c = c' then (if n = n' then V.cmps ks ks' else lessI n n') else lessI c c'
def V.cmps : List V → List V → Int
  | [], [] => 0
  | [], _ :: _ => -1
  | _ :: _, [] => 1
  | x :: xs, y :: ys => if V.cmp x y = 0 then V.cmps xs ys else V.cmp x y
end
theorem lessI_range (a b : Int) : -1 ≤ lessI a b ∧ lessI a b ≤ 1 := by
  unfold lessI
  split
  · omega
  · split <;> omega
theorem V.cmps_range_of (ks : List V) (h : ∀ k ∈ ks, ∀ b, -1 ≤ V.cmp k b ∧ V.cmp k b ≤ 1) : ∀ ks', -1 ≤ V.cmps ks ks' ∧ V.cmps ks ks' ≤ 1 := by
  induction ks with
  | nil => intro ks'; cases ks' <;> simp [V.cmps]
  | cons x xs ih =>
    intro ks'
    cases ks' with
    | nil => simp [V.cmps]
    | cons y ys =>
      simp only [V.cmps]
      split
      · exact ih (fun k hk => h k (by simp [hk])) ys
      · exact h x (by simp) y
theorem V.cmp_range : ∀ a b : V, -1 ≤ V.cmp a b ∧ V.cmp a b ≤ 1 := V.ind fun c n ks ih b => by
  obtain ⟨c', n', ks'⟩ := b
  simp only [V.cmp]
  split
  · split
    · exact V.cmps_range_of ks ih ks'
    · exact lessI_range _ _
  · exact lessI_range _ _
theorem V.cmps_drop (ks ks' : List V) (k : Nat) (h : k < ks.length) (h' : k < ks'.length) : V.cmps (ks.drop k) (ks'.drop k) = if V.cmp ks[k] ks'[k] = 0 then V.cmps (ks.drop (k + 1)) (ks'.drop (k + 1)) else V.cmp ks[k] ks'[k] := by
  rw [List.drop_eq_getElem_cons h, List.drop_eq_getElem_cons h', V.cmps]
theorem V.cmps_end (ks ks' : List V) (k : Nat) (h : k ≤ ks.length) (h' : k ≤ ks'.length) (he : k = ks.length ∨ k = ks'.length) : V.cmps (ks.drop k) (ks'.drop k) = lessI ks.length ks'.length := by
  rcases he with rfl | rfl
  · rw [List.drop_length]
    rcases Nat.lt_or_ge ks.length ks'.length with hl | hl
    · rw [List.drop_eq_getElem_cons hl, V.cmps, lessI_lt (by omega)]
    · have : ks'.length = ks.length := by omega
      rw [List.drop_of_length_le hl, V.cmps, this, lessI_eq]
  · rw [List.drop_length]
    rcases Nat.lt_or_ge ks'.length ks.length with hl | hl
    · rw [List.drop_eq_getElem_cons hl, V.cmps, lessI_gt (by omega)]
    · have : ks.length = ks'.length := by omega
      rw [List.drop_of_length_le hl, V.cmps, this, lessI_eq]


set_option maxHeartbeats 400000 in
theorem cmp_isNaN (a : Int) (w : World) : Calls Try.prog 122 #[.int .i64 a] w fun e w' => e = .returned (.bool false) ∧ w = w' := by
  have h : (a != a) = false := by simp
  go_enter Try.func122, Try.ntmps122
  go_wp2
  go_ret
  exact ⟨rfl, rfl⟩

set_option maxHeartbeats 400000 in
theorem cmp_Compare (a b : Int) (w : World) : Calls Try.prog 77 #[.int .i64 a, .int .i64 b] w fun e w' => e = .returned (.int .i64 (lessI a b)) ∧ w = w' := by
  by_cases h : a < b
  · have hf := Lib.hid (lessI_lt h)
    go_enter Try.func77, Try.ntmps77
    go_wp2_with (go_at_call 122; refine (cmp_isNaN _ _).mono ?_; rintro e w' ⟨rfl, rfl⟩)
    go_ret
    exact ⟨ret_int hf.out.symm, rfl⟩
  · by_cases h2 : b < a
    · have hf := Lib.hid (lessI_gt h2)
      go_enter Try.func77, Try.ntmps77
      go_wp2_with (go_at_call 122; refine (cmp_isNaN _ _).mono ?_; rintro e w' ⟨rfl, rfl⟩)
      go_ret
      exact ⟨ret_int hf.out.symm, rfl⟩
    · obtain rfl : a = b := by omega
      have hf := Lib.hid (lessI_eq a)
      clear h h2
      have h : ¬ a < a := by omega
      go_enter Try.func77, Try.ntmps77
      go_wp2_with (go_at_call 122; refine (cmp_isNaN _ _).mono ?_; rintro e w' ⟨rfl, rfl⟩)
      go_ret
      exact ⟨ret_int hf.out.symm, rfl⟩


end Go.Proofs.Ytilndhmegaccmaa

namespace Go.Proofs.Ytilndhmegaccmaa
open Go.RowKit

mutual
def V.same : V → V → Bool
  | ⟨c, n, ks⟩, ⟨c', n', ks'⟩ => (c == c') && (n == n') && V.sames ks ks'
def V.sames : List V → List V → Bool
  | [], [] => true
  | x :: xs, y :: ys => V.same x y && V.sames xs ys
  | [], _ :: _ => false
  | _ :: _, [] => false
end
theorem V.sames_iff_of (ks : List V) (h : ∀ k ∈ ks, ∀ b, V.same k b = true ↔ k = b) : ∀ ks', V.sames ks ks' = true ↔ ks = ks' := by
  induction ks with
  | nil => intro ks'; cases ks' <;> simp [V.sames]
  | cons x xs ih =>
    intro ks'
    cases ks' with
    | nil => simp [V.sames]
    | cons y ys =>
      simp only [V.sames, Bool.and_eq_true, List.cons.injEq]
      rw [h x (by simp) y, ih (fun k hk => h k (by simp [hk])) ys]
theorem V.same_iff : ∀ a b : V, V.same a b = true ↔ a = b := V.ind fun c n ks ih b => by
  obtain ⟨c', n', ks'⟩ := b
  simp only [V.same, Bool.and_eq_true, V.sames_iff_of ks ih, beq_iff_eq, V.mk.injEq, and_assoc]
theorem V.same_false {a b : V} (h : a ≠ b) : V.same a b = false := by
  rw [Bool.eq_false_iff]
  exact fun e => h ((V.same_iff a b).1 e)



end Go.Proofs.Ytilndhmegaccmaa

namespace Go.Proofs.Ytilndhmegaccmaa
open Go.RowKit

def InAll : List V → List (List V) → Prop
  | [], [] => True
  | k :: ks, l :: ls => k ∈ l ∧ InAll ks ls
  | _, _ => False
theorem mem_pairFold : ∀ (ls : List (List V)) (A : List (List V)) (ks : List V), ks ∈ ls.foldl pairL A ↔ ∃ o ∈ A, ∃ m, ks = o ++ m ∧ InAll m ls
  | [], A, ks => by
    rw [List.foldl_nil]
    constructor
    · intro h; exact ⟨ks, h, [], by simp, trivial⟩
    · rintro ⟨o, ho, m, rfl, hm⟩
      cases m with
      | nil => simpa using ho
      | cons k m => exact hm.elim
  | l :: ls, A, ks => by
    rw [List.foldl_cons, mem_pairFold ls]
    constructor
    · rintro ⟨o', ho', m, rfl, hm⟩
      obtain ⟨o, ho, h⟩ := List.mem_flatMap.1 ho'
      obtain ⟨k, hk, rfl⟩ := List.mem_map.1 h
      exact ⟨o, ho, k :: m, by simp, hk, hm⟩
    · rintro ⟨o, ho, m, rfl, hm⟩
      cases m with
      | nil => exact hm.elim
      | cons k m => exact ⟨o ++ [k], List.mem_flatMap.2 ⟨o, ho, List.mem_map.2 ⟨k, hm.1, rfl⟩⟩, m, by simp, hm.2⟩
theorem mem_pairAll (ls : List (List V)) (ks : List V) : ks ∈ pairAll ls ↔ InAll ks ls := by
  unfold pairAll
  rw [mem_pairFold]
  constructor
  · rintro ⟨o, ho, m, rfl, hm⟩
    rw [List.mem_singleton] at ho
    subst ho
    exact hm
  · intro h; exact ⟨[], by simp, ks, rfl, h⟩
theorem inAll_fits {xs : List Dt} {d : Nat} (ih : ∀ t v, v ∈ valsL xs d t ↔ fitsV xs d t v = true) : ∀ (as' : List Ty) (ks : List V), InAll ks (as'.map (valsL xs d)) ↔ (ks.length = as'.length ∧ zipAll (fitsV xs d) as' ks = true)
  | [], [] => by simp [InAll, zipAll]
  | [], k :: ks => by simp [InAll]
  | a :: as', [] => by simp [InAll]
  | a :: as', k :: ks => by
    simp only [List.map_cons, InAll, List.length_cons, zipAll, Bool.and_eq_true, inAll_fits ih as' ks, ih a k]
    constructor
    · rintro ⟨h1, h2, h3⟩; exact ⟨by omega, h1, h3⟩
    · rintro ⟨h1, h2, h3⟩; exact ⟨h2, by omega, h3⟩
theorem mem_nums (v : V) : v ∈ numsL 10 ↔ isNum v = true := by
  unfold numsL isNum
  rw [List.mem_map, Bool.and_eq_true, Bool.and_eq_true, withinB_iff, beq_iff_eq, decide_eq_true_iff]
  obtain ⟨c, n, ks⟩ := v
  simp only [numV]
  constructor
  · rintro ⟨k, hk, e⟩
    injection e with e1 e2 e3
    have hk : k < 10 := by simpa using hk
    subst e1 e2 e3
    exact ⟨rfl, by omega, rfl⟩
  · rintro ⟨rfl, h, h3⟩
    obtain rfl := List.length_eq_zero_iff.1 h3
    exact ⟨n.toNat, by simp; omega, by congr; omega⟩
/-- the values of a type up to a depth are those that fit -/
theorem mem_vals (xs : List Dt) : ∀ (d : Nat) (t : Ty) (v : V), v ∈ valsL xs d t ↔ fitsV xs d t v = true
  | 0, t, v => by rw [valsL, fitsV]; simp
  | d + 1, t, v => by
    by_cases h : t.d = -1
    · rw [valsL_int h, fitsV_int h]; exact mem_nums v
    · rw [valsL, if_neg h, fitsV_data h, List.mem_flatMap, Bool.and_eq_true, Bool.and_eq_true, Bool.and_eq_true, hasB_iff, beq_iff_eq, decide_eq_true_iff, ← inAll_fits (mem_vals xs d)]
      constructor
      · rintro ⟨c, hc, hv⟩
        rw [growAll_pairs, List.mem_map] at hv
        obtain ⟨ks, hk, rfl⟩ := hv
        rw [mem_pairAll] at hk
        exact ⟨rfl, hc, hk⟩
      · rintro ⟨h1, h2, h3⟩
        refine ⟨v.c, h2, ?_⟩
        rw [growAll_pairs, List.mem_map]
        refine ⟨v.ks, (mem_pairAll _ _).2 h3, ?_⟩
        obtain ⟨c, n, ks⟩ := v
        simp only at h1
        subst h1
        rfl
theorem zipAll_of {f g : Ty → V → Bool} : ∀ {ls : List Ty} {ks : List V}, (∀ a ∈ ls, ∀ k ∈ ks, f a k = true → g a k = true) → zipAll f ls ks = true → zipAll g ls ks = true
  | [], ks, _, _ => by cases ks <;> rfl
  | a :: ls, [], _, _ => rfl
  | a :: ls, k :: ks, h, hz => by
    rw [zipAll, Bool.and_eq_true] at hz ⊢
    exact ⟨h a (by simp) k (by simp) hz.1, zipAll_of (fun a ha k hk => h a (by simp [ha]) k (by simp [hk])) hz.2⟩
theorem depths_mem {l : List V} {k : V} (h : k ∈ l) : k.depth ≤ V.depths l := by
  induction l with
  | nil => cases h
  | cons a l ih =>
    simp only [V.depths]
    rcases List.mem_cons.1 h with rfl | h
    · omega
    · have := ih h; omega
theorem depth_ks (v : V) : v.depth = V.depths v.ks + 1 := by obtain ⟨c, n, ks⟩ := v; rfl
/-- what fits at some depth, fits at every depth that holds it -/
theorem fitsV_at (xs : List Dt) : ∀ (d : Nat) (t : Ty) (v : V), fitsV xs d t v = true → ∀ e, v.depth ≤ e → fitsV xs e t v = true
  | 0, t, v, h, e, _ => by rw [fitsV] at h; cases h
  | d + 1, t, v, h, e, he => by
    rw [depth_ks] at he
    obtain ⟨e, rfl⟩ : ∃ k, e = k + 1 := ⟨e - 1, by omega⟩
    by_cases ht : t.d = -1
    · rw [fitsV_int ht] at h ⊢; exact h
    · rw [fitsV_data ht] at h ⊢
      simp only [Bool.and_eq_true] at h ⊢
      obtain ⟨h1, h2, h3, h4⟩ := h
      refine ⟨h1, h2, h3, zipAll_of (fun a ha k hk hf => fitsV_at xs d a k hf e ?_) h4⟩
      have := depths_mem hk
      omega
theorem depths_le {l : List V} {d : Nat} (h : ∀ k ∈ l, k.depth ≤ d) : V.depths l ≤ d := by
  induction l with
  | nil => simp [V.depths]
  | cons a l ih =>
    simp only [V.depths]
    have h1 := h a (by simp)
    have h2 := ih fun k hk => h k (by simp [hk])
    omega
theorem zipAll_each {f : Ty → V → Bool} {p : V → Prop} : ∀ {ls : List Ty} {ks : List V}, ks.length = ls.length → (∀ a ∈ ls, ∀ k, f a k = true → p k) → zipAll f ls ks = true → ∀ k ∈ ks, p k
  | _, [], _, _, _ => fun k hk => by cases hk
  | [], k :: ks, h, _, _ => by simp at h
  | a :: ls, k :: ks, hl, h, hz => fun k' hk' => by
    rw [zipAll, Bool.and_eq_true] at hz
    rcases List.mem_cons.1 hk' with rfl | hk'
    · exact h a (by simp) _ hz.1
    · exact zipAll_each (by simpa using hl) (fun a ha => h a (by simp [ha])) hz.2 k' hk'
theorem fits_depth (xs : List Dt) : ∀ (d : Nat) (t : Ty) (v : V), fitsV xs d t v = true → v.depth ≤ d
  | 0, t, v, h => by rw [fitsV] at h; cases h
  | d + 1, t, v, h => by
    rw [depth_ks]
    by_cases ht : t.d = -1
    · rw [fitsV_int ht] at h
      unfold isNum at h
      simp only [Bool.and_eq_true, decide_eq_true_iff] at h
      rw [List.length_eq_zero_iff.1 h.2.2]
      simp [V.depths]
    · rw [fitsV_data ht] at h
      simp only [Bool.and_eq_true, decide_eq_true_iff] at h
      obtain ⟨h1, h2, h3, h4⟩ := h
      have := depths_le (zipAll_each (p := fun k => k.depth ≤ d) h3 (fun a _ k hk => fits_depth xs d a k hk) h4)
      omega
def nodesTo : Nat → Nat
  | 0 => 0
  | d + 1 => 1 + 3 * nodesTo d
theorem sizes_le {b : Nat} : ∀ {l : List V}, (∀ k ∈ l, nodes k ≤ b) → V.sizes l ≤ l.length * b
  | [], _ => by simp [V.sizes]
  | k :: l, h => by
    have h1 := h k (by simp)
    have h2 := sizes_le fun x hx => h x (List.mem_cons_of_mem _ hx)
    simp only [V.sizes, List.length_cons, Nat.succ_mul]
    unfold nodes at h1
    omega
theorem fits_nodes {xs : List Dt} (hw : WorldOK xs) : ∀ (d : Nat) (t : Ty) (_ : TyIn xs.length t) (v : V), fitsV xs d t v = true → nodes v ≤ nodesTo d
  | 0, t, _, v, h => by rw [fitsV] at h; cases h
  | d + 1, t, ht', v, h => by
    rw [nodes_ks, nodesTo]
    by_cases ht : t.d = -1
    · rw [fitsV_int ht] at h
      unfold isNum at h
      simp only [Bool.and_eq_true, decide_eq_true_iff] at h
      rw [List.length_eq_zero_iff.1 h.2.2]
      simp [V.sizes]
    · rw [fitsV_data ht] at h
      simp only [Bool.and_eq_true, decide_eq_true_iff] at h
      obtain ⟨h1, h2, h3, h4⟩ := h
      rw [hasB_iff] at h2
      have h5 := sizes_le (zipAll_each (p := fun k => nodes k ≤ nodesTo d) h3 (fun a ha k hk => fits_nodes hw d a (argsOf_in hw ht' h2 ha) k hk) h4)
      have h6 := argsOf_len3 hw ht' h2
      have h7 : v.ks.length * nodesTo d ≤ 3 * nodesTo d := Nat.mul_le_mul_right _ (by omega)
      omega
/-- values up to depth 4 are valid -/
theorem vals_ok {xs : List Dt} (hw : WorldOK xs) {d : Nat} (hd : d ≤ 4) {t : Ty} (ht : TyIn xs.length t) {v : V} (h : v ∈ valsL xs d t) : valueOkB xs t v = true := by
  have h1 := (mem_vals xs d t v).1 h
  have h2 := fits_depth xs d t v h1
  have h3 := fitsV_at xs d t v h1 4 (by omega)
  have h4 := fits_nodes hw 4 t ht v h3
  unfold valueOkB
  rw [fitsV_at xs d t v h1 10 (by omega), Bool.true_and, decide_eq_true_iff]
  have : nodesTo 4 = 40 := rfl
  omega
theorem vals_small {xs : List Dt} (hw : WorldOK xs) {d : Nat} (hd : d ≤ 4) {t : Ty} (ht : TyIn xs.length t) {v : V} (h : v ∈ valsL xs d t) : nodes v ≤ 60 ∧ v.depth ≤ d := by
  have h1 := (mem_vals xs d t v).1 h
  have h2 := fits_depth xs d t v h1
  have h3 := fitsV_at xs d t v h1 4 (by omega)
  have h4 := fits_nodes hw 4 t ht v h3
  have : nodesTo 4 = 40 := rfl
  exact ⟨by omega, h2⟩

/-- order -/
def Asc (l : List V) : Prop := l.Pairwise fun a b => V.cmp a b = -1
theorem cmps_app : ∀ (a b x y : List V), a.length = b.length → V.cmps (a ++ x) (b ++ y) = if V.cmps a b = 0 then V.cmps x y else V.cmps a b
  | [], [], x, y, _ => by simp [V.cmps]
  | [], _ :: _, _, _, h => by simp at h
  | _ :: _, [], _, _, h => by simp at h
  | p :: a, q :: b, x, y, h => by
    have := cmps_app a b x y (by simpa using h)
    simp only [List.cons_append, V.cmps]
    split
    · exact this
    · rename_i h1; simp [h1]
theorem cmps_refl_of (ks : List V) (h : ∀ k ∈ ks, V.cmp k k = 0) : V.cmps ks ks = 0 := by
  induction ks with
  | nil => simp [V.cmps]
  | cons k ks ih => simp only [V.cmps]; rw [if_pos (h k (by simp)), ih fun x hx => h x (by simp [hx])]
theorem cmp_refl : ∀ v : V, V.cmp v v = 0 := V.ind fun c n ks ih => by
  simp only [V.cmp, if_true]
  exact cmps_refl_of ks ih
theorem cmps_refl (ks : List V) : V.cmps ks ks = 0 := cmps_refl_of ks fun k _ => cmp_refl k
theorem pairL_asc {j : Nat} {A : List (List V)} (hA : A.Pairwise fun a b => V.cmps a b = -1) (hj : ∀ o ∈ A, o.length = j) {l : List V} (hl : Asc l) : (pairL A l).Pairwise (fun a b => V.cmps a b = -1) ∧ ∀ o ∈ pairL A l, o.length = j + 1 := by
  constructor
  · unfold pairL
    rw [List.pairwise_flatMap]
    constructor
    · intro o ho
      unfold pairK
      rw [List.pairwise_map]
      refine List.Pairwise.imp (fun h => ?_) hl
      rw [cmps_app _ _ _ _ rfl, if_pos (cmps_refl o)]
      simp only [V.cmps]
      rw [if_neg (by omega)]
      exact h
    · refine List.Pairwise.imp_of_mem (fun {o o'} ho ho' h x hx y hy => ?_) hA
      obtain ⟨k, hk, rfl⟩ := List.mem_map.1 hx
      obtain ⟨k', hk', rfl⟩ := List.mem_map.1 hy
      rw [cmps_app _ _ _ _ ((hj o ho).trans (hj o' ho').symm), if_neg (by omega)]
      exact h
  · intro o ho
    obtain ⟨o', h1, h2⟩ := List.mem_flatMap.1 ho
    obtain ⟨k, _, rfl⟩ := List.mem_map.1 h2
    rw [List.length_append, hj o' h1]
    rfl
theorem pairFold_asc : ∀ (ls : List (List V)) (_ : ∀ l ∈ ls, Asc l) (j : Nat) (A : List (List V)), (A.Pairwise fun a b => V.cmps a b = -1) → (∀ o ∈ A, o.length = j) → (ls.foldl pairL A).Pairwise fun a b => V.cmps a b = -1
  | [], _, _, A, h, _ => h
  | l :: ls, hl, j, A, h, hj => by
    rw [List.foldl_cons]
    have := pairL_asc h hj (hl l (by simp))
    exact pairFold_asc ls (fun x hx => hl x (by simp [hx])) (j + 1) _ this.1 this.2
theorem growAll_asc {c : Int} {ls : List (List V)} (h : ∀ l ∈ ls, Asc l) : Asc (growAll c ls) := by
  unfold Asc
  rw [growAll_pairs, List.pairwise_map]
  refine List.Pairwise.imp (fun h => ?_) (pairFold_asc ls h 0 [[]] (by simp) (by simp))
  simp only [headV, V.cmp, if_true]
  exact h
theorem growAll_c {c : Int} {ls : List (List V)} {v : V} (h : v ∈ growAll c ls) : v.c = c := by
  rw [growAll_pairs, List.mem_map] at h
  obtain ⟨ks, _, rfl⟩ := h
  rfl
theorem asc_pairwise {l : List Int} (h : ∀ a (ha : a + 1 < l.length), l[a] < l[a + 1]) : l.Pairwise (· < ·) := by
  rw [List.pairwise_iff_getElem]
  intro i j hi hj hij
  have : ∀ k (hk : i + k + 1 < l.length), l[i] < l[i + k + 1] := by
    intro k
    induction k with
    | zero => intro hk; exact h i hk
    | succ k ih =>
      intro hk
      have h1 := ih (by omega)
      have h2 := h (i + k + 1) hk
      exact Int.lt_trans h1 h2
  have h2 := this (j - i - 1) (by omega)
  simp only [show i + (j - i - 1) + 1 = j by omega] at h2
  exact h2
theorem nums_asc (n : Nat) : Asc (numsL n) := by
  unfold Asc numsL
  rw [List.pairwise_map]
  refine List.Pairwise.imp (fun {a b} h => ?_) List.pairwise_lt_range
  have h : a < b := h
  simp only [numV, V.cmp, if_true]
  rw [if_neg (by omega), lessI_lt (by omega)]
theorem vals_asc {xs : List Dt} (hw : WorldOK xs) : ∀ (d : Nat) (t : Ty), TyIn xs.length t → Asc (valsL xs d t)
  | 0, t, _ => by rw [valsL]; exact List.Pairwise.nil
  | d + 1, t, ht' => by
    by_cases ht : t.d = -1
    · rw [valsL_int ht]; exact nums_asc 10
    · rw [valsL, if_neg ht]
      unfold Asc
      rw [List.pairwise_flatMap]
      constructor
      · intro c hc
        exact growAll_asc fun l hl => by
          obtain ⟨a, ha, rfl⟩ := List.mem_map.1 hl
          exact vals_asc hw d a (argsOf_in hw ht' hc ha)
      · refine List.Pairwise.imp (fun {c c'} h x hx y hy => ?_) (asc_pairwise (ctorsL_sorted ht'.inWorld))
        have h1 := growAll_c hx
        have h2 := growAll_c hy
        obtain ⟨c1, n1, k1⟩ := x
        obtain ⟨c2, n2, k2⟩ := y
        simp only at h1 h2
        subst h1 h2
        simp only [V.cmp]
        rw [if_neg (by omega), lessI_lt h]
theorem vals_step {xs : List Dt} (hw : WorldOK xs) {d : Nat} {t : Ty} (ht : TyIn xs.length t) (i : Nat) (h : i + 1 < (valsL xs d t).length) : V.cmp (valsL xs d t)[i] (valsL xs d t)[i + 1] = -1 :=
  List.pairwise_iff_getElem.1 (vals_asc hw d t ht) i (i + 1) (by omega) h (by omega)

/-- less depth, fewer values -/
theorem sub_flatMap {α β : Type} {f g : α → List β} : ∀ (l : List α), (∀ a ∈ l, (f a).Sublist (g a)) → (l.flatMap f).Sublist (l.flatMap g)
  | [], _ => List.Sublist.refl _
  | a :: l, h => by
    rw [List.flatMap_cons, List.flatMap_cons]
    exact List.Sublist.append (h a (by simp)) (sub_flatMap l fun x hx => h x (by simp [hx]))
theorem flatMap_sub {α β : Type} (f : α → List β) {A B : List α} (h : A.Sublist B) : (A.flatMap f).Sublist (B.flatMap f) := by
  induction h with
  | slnil => exact List.Sublist.refl _
  | cons a _ ih => rw [List.flatMap_cons]; exact ih.trans (List.sublist_append_right _ _)
  | cons_cons a _ ih => rw [List.flatMap_cons, List.flatMap_cons]; exact List.Sublist.append (List.Sublist.refl _) ih
theorem pairL_sub {A B : List (List V)} {l m : List V} (h : A.Sublist B) (h2 : l.Sublist m) : (pairL A l).Sublist (pairL B m) :=
  (flatMap_sub _ h).trans (sub_flatMap B fun o _ => by unfold pairK; exact h2.map _)
theorem pairFold_sub {α : Type} {f g : α → List V} (h : ∀ a, (f a).Sublist (g a)) : ∀ (ls : List α) {A B : List (List V)}, A.Sublist B → ((ls.map f).foldl pairL A).Sublist ((ls.map g).foldl pairL B)
  | [], _, _, hA => hA
  | a :: ls, _, _, hA => by
    rw [List.map_cons, List.map_cons, List.foldl_cons, List.foldl_cons]
    exact pairFold_sub h ls (pairL_sub hA (h a))
theorem vals_sub (xs : List Dt) : ∀ (d : Nat) (t : Ty), (valsL xs d t).Sublist (valsL xs (d + 1) t)
  | 0, t => by rw [valsL]; exact List.nil_sublist _
  | d + 1, t => by
    by_cases ht : t.d = -1
    · rw [valsL_int ht, valsL_int ht]; exact List.Sublist.refl _
    · rw [valsL, if_neg ht, valsL, if_neg ht]
      refine sub_flatMap _ fun c _ => ?_
      rw [growAll_pairs, growAll_pairs]
      exact (pairFold_sub (vals_sub xs d) _ (List.Sublist.refl _)).map _
/-- a place in `less` after a place in `list` -/
theorem sub_hit {α : Type} {l m : List α} {k i : Nat} (h : (l.drop k).Sublist (m.drop i)) (hk : k < l.length) (hi : i < m.length) (e : m[i] = l[k]) : (l.drop (k + 1)).Sublist (m.drop (i + 1)) := by
  rw [List.drop_eq_getElem_cons hk, List.drop_eq_getElem_cons hi, e] at h
  exact List.cons_sublist_cons.1 h
theorem sub_skip {α : Type} {a b : α} {l m : List α} (h : (a :: l).Sublist (b :: m)) (e : ¬ b = a) : (a :: l).Sublist m := by
  cases h with
  | cons _ h => exact h
  | cons_cons _ h => exact absurd rfl e
theorem sub_miss {α : Type} {l m : List α} {k i : Nat} (h : (l.drop k).Sublist (m.drop i)) (hk : k < l.length) (hi : i < m.length) (e : ¬ m[i] = l[k]) : (l.drop k).Sublist (m.drop (i + 1)) := by
  rw [List.drop_eq_getElem_cons hk, List.drop_eq_getElem_cons hi] at h
  rw [List.drop_eq_getElem_cons hk]
  exact sub_skip h e
theorem sub_end {α : Type} {l m : List α} {k i : Nat} (h : (l.drop k).Sublist (m.drop i)) (hi : m.length ≤ i) : l.length ≤ k := by
  rw [List.drop_of_length_le hi] at h
  have := h.length_le
  rw [List.length_drop, List.length_nil] at this
  omega
end Go.Proofs.Ytilndhmegaccmaa

namespace Go.Proofs.Ytilndhmegaccmaa
open Go.RowKit

theorem CellsAt.nil (w : World) (b off : Nat) : CellsAt w b off [] := fun j u h => by simp at h
theorem CellsAt.cons {w : World} {b off : Nat} {a : Value} {cs : List Value} (h : w.cell? ⟨b, off, none⟩ = some a) (hc : CellsAt w b (off + 1) cs) : CellsAt w b off (a :: cs) := fun j u hj => by
  cases j with
  | zero => simp at hj; subst hj; exact h
  | succ j =>
    have := hc j u (by simpa using hj)
    rwa [show off + 1 + j = off + (j + 1) by omega] at this
theorem Kept.refl (F : List Nat) (w : World) : Kept F w w := fun _ _ => rfl
theorem Kept.set {F : List Nat} {w w' : World} {b j : Nat} {u : Value} (h : Kept F w w') (hb : b ∉ F) : Kept F w (w'.setCell ⟨b, j, none⟩ u) := fun c hc =>
  (Below.heap_setCell _ _ _ _ (fun e => hb (by rw [← show c = b from e]; exact hc))).trans (h c hc)
theorem Kept.step {F : List Nat} {w w' w'' : World} (h : Kept F w w') (hb : Below w'.heap.size w' w'') (hF : Under w'.heap.size F) : Kept F w w'' := fun c hc => (hb.block c (hF c hc)).trans (h c hc)

/-- w' differs from w in the blocks of F alone -/
structure Chg (F : List Nat) (w w' : World) : Prop where
  os : w'.os = w.os
  tape : w'.tape = w.tape
  output : w'.output = w.output
  size : w.heap.size ≤ w'.heap.size
  block : ∀ b, b < w.heap.size → b ∉ F → w'.heap[b]? = w.heap[b]?
theorem Chg.refl (F : List Nat) (w : World) : Chg F w w := ⟨rfl, rfl, rfl, Nat.le_refl _, fun _ _ _ => rfl⟩
theorem Chg.trans {F : List Nat} {a b c : World} (h : Chg F a b) (k : Chg F b c) : Chg F a c :=
  ⟨k.os.trans h.os, k.tape.trans h.tape, k.output.trans h.output, Nat.le_trans h.size k.size, fun i hi hF => (k.block i (Nat.lt_of_lt_of_le hi h.size) hF).trans (h.block i hi hF)⟩
theorem Chg.mono {F G : List Nat} {w w' : World} (h : Chg F w w') (hs : ∀ b ∈ F, b ∈ G) : Chg G w w' := ⟨h.os, h.tape, h.output, h.size, fun b hb hG => h.block b hb fun hf => hG (hs b hf)⟩
theorem Chg.of_below {F : List Nat} {w w' : World} (h : Below w.heap.size w w') : Chg F w w' := ⟨h.os, h.tape, h.output, h.size, fun b hb _ => h.block b hb⟩
theorem Chg.kept {F G : List Nat} {w w' : World} (h : Chg F w w') (hG : Under w.heap.size G) (hd : ∀ b ∈ G, b ∉ F) : Kept G w w' := fun b hb => h.block b (hG b hb) (hd b hb)
theorem Chg.below {F : List Nat} {w w' : World} {B : Nat} (h : Chg F w w') (hF : ∀ b ∈ F, B ≤ b) (hB : B ≤ w.heap.size) : Below B w w' :=
  ⟨h.os, h.tape, h.output, h.size, fun b hb => h.block b (Nat.lt_of_lt_of_le hb hB) fun hf => Nat.lt_irrefl _ (Nat.lt_of_lt_of_le hb (hF b hf))⟩

theorem Chg.set {F : List Nat} {w w' : World} {b j : Nat} {u : Value} (h : Chg F w w') (hb : b ∈ F) : Chg F w (w'.setCell ⟨b, j, none⟩ u) :=
  ⟨h.os, h.tape, h.output, Nat.le_trans h.size (by simp [World.setCell]), fun c hc hF => (Below.heap_setCell _ _ _ _ (fun e => hF (by rw [show c = b from e]; exact hb))).trans (h.block c hc hF)⟩
theorem Chg.step {F : List Nat} {w w' w'' : World} (h : Chg F w w') (hb : Below w'.heap.size w' w'') : Chg F w w'' := h.trans (.of_below hb)
theorem Chg.drew {F : List Nat} {w w' : World} (h : Chg F w w') : Chg F w w'.drew := ⟨h.os, h.tape, h.output, h.size, h.block⟩
theorem Chg.drewN {F : List Nat} {w w' : World} (h : Chg F w w') (n : Nat) : Chg F w (w'.drewN n) := ⟨h.os, h.tape, h.output, h.size, h.block⟩
theorem Chg.cell {F : List Nat} {w w' : World} (h : Chg F w w') {p : Addr} (hp : p.block < w.heap.size) (hn : p.block ∉ F) : w'.cell? p = w.cell? p := World.cell?_of_block (w := w) (h.block p.block hp hn)
theorem Chg.undrew {F : List Nat} {w w' : World} (h : Chg F w.drew w') : Chg F w w' := ⟨h.os, h.tape, h.output, h.size, h.block⟩

/-- beside the blocks of F, cells lo .. lo + n - 1 of block b may have changed -/
structure Upd (b lo n : Nat) (F : List Nat) (w w' : World) : Prop extends Chg (b :: F) w w' where
  cells : ∀ j, j < lo ∨ lo + n ≤ j → w'.cell? ⟨b, j, none⟩ = w.cell? ⟨b, j, none⟩
  froz : ∀ j, w'.frozen? ⟨b, j, none⟩ = w.frozen? ⟨b, j, none⟩
theorem Upd.refl (b lo n : Nat) (F : List Nat) (w : World) : Upd b lo n F w w := ⟨Chg.refl _ _, fun _ _ => rfl, fun _ => rfl⟩
theorem Upd.trans {b lo n : Nat} {F : List Nat} {x y z : World} (h : Upd b lo n F x y) (k : Upd b lo n F y z) : Upd b lo n F x z :=
  ⟨h.toChg.trans k.toChg, fun j hj => (k.cells j hj).trans (h.cells j hj), fun j => (k.froz j).trans (h.froz j)⟩
theorem Upd.set {b lo n : Nat} {F : List Nat} {x y : World} (h : Upd b lo n F x y) {j : Nat} (h1 : lo ≤ j) (h2 : j < lo + n) (u : Value) : Upd b lo n F x (y.setCell ⟨b, j, none⟩ u) :=
  h.trans ⟨⟨rfl, rfl, rfl, by simp [World.setCell], fun c _ hc => Below.heap_setCell _ _ _ _ (fun e => hc (by rw [e]; exact List.mem_cons_self))⟩,
    fun i hi => World.cell?_setCell_other _ _ _ _ (by intro e; injection e; omega), fun i => World.frozen?_setCell _ _ _ _⟩
theorem Upd.sub {b lo n : Nat} {F : List Nat} {x y z : World} (h : Upd b lo n F x y) (hc : Chg F y z) (hb : b ∉ F) (hlt : b < y.heap.size) : Upd b lo n F x z :=
  h.trans ⟨hc.mono fun c hc => List.mem_cons_of_mem _ hc, fun j _ => World.cell?_of_block (w := y) (a := ⟨b, j, none⟩) (hc.block b hlt hb), fun j => World.frozen?_of_block (w := y) (a := ⟨b, j, none⟩) (hc.block b hlt hb)⟩
theorem Upd.below {b lo n : Nat} {F : List Nat} {x y z : World} (h : Upd b lo n F x y) (hc : Below y.heap.size y z) (hlt : b < y.heap.size) : Upd b lo n F x z :=
  h.trans ⟨.of_below hc, fun j _ => hc.cell (p := ⟨b, j, none⟩) hlt, fun j => hc.frozen (p := ⟨b, j, none⟩) hlt⟩

theorem Flat.len_eq {α : Type} {R : α → List Value → List Nat → Prop} {k : Nat} (hk : ∀ x cs F, R x cs F → cs.length = k) {xs : List α} {c : List Value} {F : List Nat} (h : Flat R xs c F) : c.length = xs.length * k := h.length hk

section
variable {α : Type} {R : World → α → List Value → List Nat → Prop} {k : Nat}

/-- one element in view: what may be done to it -/
theorem Arr.focus (hRl : ∀ w x cs G, R w x cs G → cs.length = k) (hRm : ∀ w w' x cs G, Kept G w w' → R w x cs G → R w' x cs G) {w : World} {xs : List α} {v : Value} {F : List Nat}
    (h : Arr w (R w) xs v F) (hfr : Free w F) (hF : Under w.heap.size F) {i : Nat} (hi : i < xs.length) :
    ∃ b off c F1 F2 F3 cap, v = .slice (some ⟨b, off, none⟩) xs.length cap ∧ F = b :: (F1 ++ (F2 ++ F3)) ∧ CellsAt w b (off + i * k) c ∧ R w xs[i] c F2 ∧ Free w F2 ∧ b ∉ F2 ∧ b < w.heap.size ∧ (∀ j, w.frozen? ⟨b, j, none⟩ = false) ∧ Under w.heap.size F2 ∧
      ∀ w' y c', Upd b (off + i * k) k F2 w w' → CellsAt w' b (off + i * k) c' → R w' y c' F2 → Free w' F2 → Arr w' (R w') (xs.set i y) v F ∧ Free w' F ∧ Chg F w w' := by
  obtain ⟨A, cap, rfl, h1, h2, h3⟩ := h
  rcases h3 with ⟨rfl, -⟩ | ⟨b, off, cs, G, rfl, hc, hf, rfl⟩
  · simp at hi
  have hxs : xs = xs.take i ++ (xs[i] :: xs.drop (i + 1)) := by rw [← List.drop_eq_getElem_cons hi, List.take_append_drop]
  have hf' := hf
  rw [hxs] at hf'
  obtain ⟨c1, c23, F1, F23, rfl, rfl, g1, g23⟩ := Flat.split (xs.take i) hf'
  obtain ⟨c2, c3, F2, F3, rfl, rfl, g2, g3⟩ := g23
  have l1 : c1.length = i * k := by rw [g1.length (hRl w), List.length_take]; congr 1; omega
  have hc2 := hc.right
  rw [l1] at hc2
  have l2 := hRl _ _ _ _ g2
  have nd := List.nodup_cons.1 hfr.1
  have nd1 := List.nodup_append.1 nd.2
  have nd2 := List.nodup_append.1 nd1.2.1
  have hbF2 : b ∉ F2 := fun hb => nd.1 (List.mem_append.2 (.inr (List.mem_append.2 (.inl hb))))
  refine ⟨b, off, c2, F1, F2, F3, cap, rfl, rfl, hc2.left, g2, ⟨nd2.1, fun x hx j => hfr.2 x (by simp [hx]) j⟩, hbF2, hF b (by simp), fun j => hfr.2 b (by simp) j, fun x hx => hF x (by simp [hx]), ?_⟩
  intro w' y c' hu hc' hy hfr2
  have k1 : Kept F1 w w' := hu.toChg.kept (fun x hx => hF x (by simp [hx])) fun x hx hm => by
    rcases List.mem_cons.1 hm with rfl | hm
    · exact nd.1 (by simp [hx])
    · exact nd1.2.2 x hx x (by simp [hm]) rfl
  have k3 : Kept F3 w w' := hu.toChg.kept (fun x hx => hF x (by simp [hx])) fun x hx hm => by
    rcases List.mem_cons.1 hm with rfl | hm
    · exact nd.1 (by simp [hx])
    · exact nd2.2.2 x hm x hx rfl
  have lc' := hRl _ _ _ _ hy
  have hxs' : xs.set i y = xs.take i ++ (y :: xs.drop (i + 1)) := by rw [List.set_eq_take_append_cons_drop, if_pos hi]
  refine ⟨?_, ?_, ?_⟩
  · rw [hxs']
    refine ⟨_, cap, by rw [← hxs', List.length_set], by rw [← hxs', List.length_set]; exact h1, h2, .inr ⟨b, off, c1 ++ (c' ++ c3), F1 ++ (F2 ++ F3), rfl, ?_, ?_, rfl⟩⟩
    · refine CellsAt.append (fun j u hj => ?_) (CellsAt.append ?_ (fun j u hj => ?_))
      · have hjl := (List.getElem?_eq_some_iff.1 hj).1
        rw [hu.cells _ (.inl (by omega))]
        exact hc.left j u hj
      · rw [l1]; exact hc'
      · rw [l1, hu.cells _ (.inr (by omega))]
        have := hc2.right j u hj
        rw [l2] at this
        rwa [lc']
    · exact (g1.mono fun x _ cs H hH hr => hRm _ _ x cs H (fun z hz => k1 z (hH z hz)) hr).append ⟨c', c3, F2, F3, rfl, rfl, hy, g3.mono fun x _ cs H hH hr => hRm _ _ x cs H (fun z hz => k3 z (hH z hz)) hr⟩
  · refine ⟨hfr.1, fun x hx j => ?_⟩
    rcases List.mem_cons.1 hx with rfl | hx
    · rw [hu.froz j]; exact hfr.2 x (by simp) j
    · rcases List.mem_append.1 hx with hx | hx
      · rw [World.frozen?_of_block (w := w) (a := ⟨x, j, none⟩) (k1 x hx)]; exact hfr.2 x (by simp [hx]) j
      · rcases List.mem_append.1 hx with hx | hx
        · exact hfr2.2 x hx j
        · rw [World.frozen?_of_block (w := w) (a := ⟨x, j, none⟩) (k3 x hx)]; exact hfr.2 x (by simp [hx]) j
  · exact hu.toChg.mono fun x hx => by
      rcases List.mem_cons.1 hx with rfl | hx <;> simp [*]
end

/-! ### What marking makes of a list -/
def mkS {α : Type} (mk : Int → α → α) (cnt : α → Nat) : Int → List α → List α
  | _, [] => []
  | k, x :: xs => mk k x :: mkS mk cnt (k + cnt x) xs
section
variable {α : Type} {mk : Int → α → α} {cnt : α → Nat}
theorem mkS_length : ∀ (xs : List α) (k : Int), (mkS mk cnt k xs).length = xs.length
  | [], _ => rfl
  | x :: xs, k => by rw [mkS, List.length_cons, mkS_length xs, List.length_cons]
theorem mkS_snoc : ∀ (xs : List α) (k : Int) (x : α), mkS mk cnt k (xs ++ [x]) = mkS mk cnt k xs ++ [mk (k + sumBy cnt xs) x]
  | [], k, x => by simp [mkS, sumBy]
  | y :: xs, k, x => by
    simp only [List.cons_append, mkS, mkS_snoc xs, sumBy]
    congr 4; omega
theorem mkS_get {xs : List α} {k : Int} {i : Nat} (hi : i < xs.length) : (mkS mk cnt k xs)[i]? = some (mk (k + sumBy cnt (xs.take i)) xs[i]) := by
  have h : ∀ (xs : List α) (k : Int) (i : Nat) (hi : i < xs.length), (mkS mk cnt k xs)[i]? = some (mk (k + sumBy cnt (xs.take i)) xs[i]) := by
    intro xs
    induction xs with
    | nil => intro k i hi; simp at hi
    | cons x xs ih =>
      intro k i hi
      cases i with
      | zero => simp [mkS, sumBy]
      | succ i =>
        simp only [mkS, List.getElem?_cons_succ, List.take_succ_cons, sumBy, List.getElem_cons_succ]
        rw [ih (k + cnt x) i (by simpa using hi)]
        congr 2; omega
  exact h xs k i hi
/-- the first i elements are marked already -/
def mkTo (mk : Int → α → α) (cnt : α → Nat) (k : Int) (xs : List α) (i : Nat) : List α := mkS mk cnt k (xs.take i) ++ xs.drop i
theorem mkTo_length (k : Int) (xs : List α) (i : Nat) : (mkTo mk cnt k xs i).length = xs.length := by unfold mkTo; rw [List.length_append, mkS_length, ← List.length_append, List.take_append_drop]
theorem mkTo_zero (k : Int) (xs : List α) : mkTo mk cnt k xs 0 = xs := rfl
theorem mkTo_all (k : Int) (xs : List α) {i : Nat} (h : xs.length ≤ i) : mkTo mk cnt k xs i = mkS mk cnt k xs := by unfold mkTo; rw [List.take_of_length_le h, List.drop_of_length_le h, List.append_nil]
theorem mkTo_get {k : Int} {xs : List α} {i : Nat} (hi : i < xs.length) : (mkTo mk cnt k xs i)[i]'(by rw [mkTo_length]; exact hi) = xs[i] := by
  unfold mkTo
  rw [List.getElem_append_right (by rw [mkS_length, List.length_take]; omega)]
  simp only [mkS_length, List.length_take, Nat.min_eq_left (Nat.le_of_lt hi), Nat.sub_self, List.getElem_drop, Nat.add_zero]
theorem mkTo_step {k : Int} {xs : List α} {i : Nat} (hi : i < xs.length) : (mkTo mk cnt k xs i).set i (mk (k + sumBy cnt (xs.take i)) xs[i]) = mkTo mk cnt k xs (i + 1) := by
  unfold mkTo
  rw [take_snoc' xs i hi, mkS_snoc, List.set_append_right _ _ (by rw [mkS_length, List.length_take]; omega), mkS_length, List.length_take, Nat.min_eq_left (Nat.le_of_lt hi), Nat.sub_self, List.drop_eq_getElem_cons hi, List.set_cons_zero, List.append_assoc]
  rfl
theorem sumBy_step (f : α → Nat) {xs : List α} {i : Nat} (hi : i < xs.length) (k : Int) : k + sumBy f (xs.take (i + 1)) = k + sumBy f (xs.take i) + f xs[i] := by rw [sumBy_take_succ f xs i hi]; omega
end
end Go.Proofs.Ytilndhmegaccmaa

namespace Go.Proofs.Ytilndhmegaccmaa
open Go.RowKit

theorem chg_under {F : List Nat} {a b c : World} (h : Chg F a b) (k : Below a.heap.size b c) : Chg F a c :=
  ⟨k.os.trans h.os, k.tape.trans h.tape, k.output.trans h.output, Nat.le_trans h.size k.size, fun i hi hF => (k.block i hi).trans (h.block i hi hF)⟩
theorem free_app {w : World} {F G : List Nat} (hF : Free w F) (hG : Free w G) (hd : ∀ b ∈ F, b ∉ G) : Free w (F ++ G) :=
  ⟨List.nodup_append.2 ⟨hF.1, hG.1, fun a ha b hb e => hd a ha (by rw [e]; exact hb)⟩, fun b hb i => by
    rcases List.mem_append.1 hb with h | h
    · exact hF.2 b h i
    · exact hG.2 b h i⟩
section
variable {α : Type} {w w9 wr wA w7 : World} {D H k : Nat} {T E : TypeId} {cells : Array Value} {R : World → α → List Value → List Nat → Prop} {xs ys : List α} {v v' : Value} {F G : List Nat} {o : Obj}
theorem kid_old (HO : Own wr (D + 1) E k R xs v F) (hBu : Below wr.heap.size wr wA) (hgr : (wA.alloc o).grownBy w7 v.ownBlock) {b : Nat} (hb : b < D + 1) (hbr : b < wr.heap.size) : w7.heap[b]? = wr.heap[b]? := by
  have hl : b < wA.heap.size := Nat.lt_of_lt_of_le hbr hBu.size
  refine ((hgr.block b (by rw [World.size_alloc]; omega) (fun e => ?_)).trans (Below.heap_alloc _ _ _ hl)).trans (hBu.block b hbr)
  have := (HO.row b (mem_rowOf.2 e.symm)).1
  omega
theorem kid_round (j : Nat) (hRm : ∀ w w' x cs G, Kept G w w' → R w x cs G → R w' x cs G) (hw9 : w9.heap.size = D + 1) (KD : Blk wr D T cells) (HO : Own wr (D + 1) E k R xs v F) (HF : Free wr F) (HFh : ∀ b ∈ F, D + 1 ≤ b) (HC : Chg [D] w9 wr) (hB : Below H w wr) (hHD : H ≤ D) (hw : H ≤ w.heap.size)
    (hBu : Below wr.heap.size wr wA) (hfrA : Free wA G) (hfsA : ∀ b ∈ G, wr.heap.size ≤ b ∧ b < wA.heap.size) (hown : Own w7 (D + 1) E k R ys v' (F ++ G)) (hgr : (wA.alloc o).grownBy w7 v.ownBlock) :
    Blk (w7.setCell ⟨D, j, none⟩ v') D T (cells.setIfInBounds j v') ∧ Own (w7.setCell ⟨D, j, none⟩ v') (D + 1) E k R ys v' (F ++ G) ∧ Free (w7.setCell ⟨D, j, none⟩ v') (F ++ G) ∧ (∀ b ∈ F ++ G, D + 1 ≤ b) ∧ Chg [D] w9 (w7.setCell ⟨D, j, none⟩ v') ∧ Below H w (w7.setCell ⟨D, j, none⟩ v') ∧ w9.heap.size ≤ (w7.setCell ⟨D, j, none⟩ v').heap.size := by
  have hlt := KD.lt
  have hA := hBu.size
  have hFG : ∀ b ∈ F ++ G, D + 1 ≤ b := fun b hb => by
    rcases List.mem_append.1 hb with h | h
    · exact HFh b h
    · have := (hfsA b h).1; omega
  have hBA7 : Below (D + 1) wA w7 := ((Below.refl (D + 1) wA).alloc (by omega) o).grown hgr (by rw [World.size_alloc]; omega) (fun g hg => (HO.row g (mem_rowOf.2 hg)).1)
  have hC7 : Chg [D] w9 w7 := chg_under (HC.step hBu) (by rw [hw9]; exact hBA7)
  have hC8 : Chg [D] w9 (w7.setCell ⟨D, j, none⟩ v') := hC7.set (by simp)
  have hne : ∀ b ∈ F ++ G, b ≠ D := fun b hb e => by have := hFG b hb; omega
  refine ⟨?_, Own.set (j := j) hRm hown v' (fun h => by have := (hown.row _ h).1; omega) (fun h => hne _ h rfl), ?_, hFG, hC8, ?_, hC8.size⟩
  · exact (KD.same (kid_old HO hBu hgr (Nat.lt_succ_self D) hlt)).set_ j v'
  · have hfr : Free wA (F ++ G) := free_app (HF.kept (.of_below hBu HO.under)) hfrA (fun b hb hG => by have h1 := HO.under b hb; have h2 := (hfsA b hG).1; omega)
    have hfr7 : Free w7 (F ++ G) := hfr.kept fun b hb => by
      have hbA : b < wA.heap.size := by
        rcases List.mem_append.1 hb with h | h
        · exact Nat.lt_of_lt_of_le (HO.under b h) hA
        · exact (hfsA b h).2
      refine (hgr.block b (by rw [World.size_alloc]; omega) (fun e => ?_)).trans (Below.heap_alloc _ _ _ hbA)
      have hrw := mem_rowOf.2 e.symm
      rcases List.mem_append.1 hb with h | h
      · exact HO.apart b hrw h
      · have h1 := (HO.row b hrw).2
        have h2 := (hfsA b h).1
        omega
    exact hfr7.kept fun b hb => Below.heap_setCell w7 ⟨D, j, none⟩ v' b (hne b hb)
  · have h8 : Below H w w7 := (hB.trans (hBu.mono (Nat.le_trans hw hB.size))).trans (hBA7.mono (by omega))
    exact h8.setCell hHD _
/-- the finished row of kids -/
theorem kid_done (HO : Own wr D E k R xs v F) (HF : Free wr F) (HFh : ∀ b ∈ F, D ≤ b) (hHD : H ≤ D) : ∃ FF, Arr wr (R wr) xs v FF ∧ Free wr FF ∧ ∀ b ∈ FF, H ≤ b ∧ b < wr.heap.size :=
  ⟨_, HO.arr, HO.free HF, fun b hb => by
    split at hb
    · cases hb
    · rcases List.mem_append.1 hb with h | h
      · have := HO.row b h; omega
      · have := HFh b h; have := HO.under b h; omega⟩
end
end Go.Proofs.Ytilndhmegaccmaa

namespace Go.Proofs.Ytilndhmegaccmaa
open Go.RowKit

/-- contract of l2Fits at one value -/
def FitsS (v : V) : Prop := ∀ (xs : List Dt) (_ : WorldOK xs) (d : Nat) (_ : d ≤ 10) (t : Ty) (_ : TyIn xs.length t) (w : World) (x : Value) (F : List Nat) (cs : List Value) (G : List Nat), Arr w (DtR w) xs x F → Under w.heap.size F → VR w v cs G → Under w.heap.size G →
  Calls Try.prog 127 #[x, .agg #[.int .i64 t.d, .int .i64 t.i], .agg cs.toArray, .int .i64 (d : Int)] w fun e w' => e = .returned (.bool (fitsV xs d t v)) ∧ Below w.heap.size w w'
set_option maxRecDepth 100000 in
set_option maxHeartbeats 1600000 in
theorem l2Fits_of (v : V) (ih : ∀ k ∈ v.ks, FitsS k) : FitsS v := by
  intro xs hw d hd t ht w x F cs G hx hf hv hg
  obtain ⟨kv, rfl, ha⟩ := (VR_iff _ _ _).1 hv
  obtain ⟨A, cap, rfl, hc1, hc2⟩ := hx.form
  obtain ⟨A4, cap4, rfl, hc3, hc4⟩ := ha.form
  have HW := Lib.hid hw
  have IH := Lib.hid ih
  have HX := Lib.hid hx
  have HF := Lib.hid hf
  have HA := Lib.hid ha
  have HG := Lib.hid hg
  clear hx hf ha hg
  clear hw ih hv
  cases d with
  | zero =>
    go_enter Try.func127, Try.ntmps127
    go_wp2
    go_ret
    exact ⟨ret_bool rfl, ((Below.refl _ _).alloc (Nat.le_refl _) _).alloc (by simp) _⟩
  | succ d =>
  have hd1 : decide (((d + 1 : Nat) : Int) < 1) = false := by simp; omega
  have hde : ((d + 1 : Nat) : Int) = (d : Int) + 1 := by omega
  rw [hde] at hd1 ⊢
  clear hde
  rcases ht with ht | ⟨q, r, rfl, hql, hrl⟩
  · have t0 : (t.d == -1) = true := by simp [ht]
    have hB0 : Below w.heap.size w ((w.alloc (.cells #[.int .i64 t.d, .int .i64 t.i] 32)).alloc (.cells #[.int .i64 v.c, .int .i64 v.n, .slice A4 v.ks.length cap4] 53)) := ((Below.refl _ _).alloc (Nat.le_refl _) _).alloc (by simp) _
    have hfi := fitsV_int (xs := xs) (d := d) (v := v) ht
    unfold isNum at hfi
    cases q0 : (v.c == -1) with
    | false =>
      have hf : Hid (fitsV xs (d + 1) t v = false) := by rw [hfi, q0]; rfl
      clear hfi
      go_enter Try.func127, Try.ntmps127
      go_wp2
      go_ret
      exact ⟨ret_bool hf.out.symm, ((Below.refl _ _).alloc (Nat.le_refl _) _).alloc (by simp) _⟩
    | true =>
      cases q1 : withinB v.n 0 9 with
      | false =>
        have hf : Hid (fitsV xs (d + 1) t v = false) := by rw [hfi, q0, q1]; rfl
        clear hfi
        by_cases h0 : 0 ≤ v.n
        · have t1 : decide (v.n ≥ 0) = true := by simpa using h0
          have t2 : decide (v.n ≤ 9) = false := by
            have : ¬ (0 ≤ v.n ∧ v.n ≤ 9) := fun h => by rw [(withinB_iff _ _ _).2 h] at q1; cases q1
            simp; omega
          clear q1
          go_enter Try.func127, Try.ntmps127
          go_wp2
          go_ret
          exact ⟨ret_bool hf.out.symm, ((Below.refl _ _).alloc (Nat.le_refl _) _).alloc (by simp) _⟩
        · have t1 : decide (v.n ≥ 0) = false := by simpa using h0
          clear q1
          go_enter Try.func127, Try.ntmps127
          go_wp2
          go_ret
          exact ⟨ret_bool hf.out.symm, ((Below.refl _ _).alloc (Nat.le_refl _) _).alloc (by simp) _⟩
      | true =>
        by_cases q2 : v.ks.length = 0
        · have hf : Hid (fitsV xs (d + 1) t v = true) := by rw [hfi, q0, q1, decide_eq_true q2]; rfl
          have t3 : ((v.ks.length : Int) == 0) = true := by simp [q2]
          clear hfi
          have hq := (withinB_iff _ _ _).1 q1
          have t1 : decide (v.n ≥ 0) = true := by simp; omega
          have t2 : decide (v.n ≤ 9) = true := by simp; omega
          clear q1
          go_enter Try.func127, Try.ntmps127
          go_wp2
          go_ret
          exact ⟨ret_bool hf.out.symm, ((Below.refl _ _).alloc (Nat.le_refl _) _).alloc (by simp) _⟩
        · have hf : Hid (fitsV xs (d + 1) t v = false) := by rw [hfi, q0, q1, decide_eq_false q2]; rfl
          have t3 : ((v.ks.length : Int) == 0) = false := by simp; simpa using q2
          clear hfi
          have hq := (withinB_iff _ _ _).1 q1
          have t1 : decide (v.n ≥ 0) = true := by simp; omega
          have t2 : decide (v.n ≤ 9) = true := by simp; omega
          clear q1
          go_enter Try.func127, Try.ntmps127
          go_wp2
          go_ret
          exact ⟨ret_bool hf.out.symm, ((Below.refl _ _).alloc (Nat.le_refl _) _).alloc (by simp) _⟩
  · have t0 : ((q : Int) == -1) = false := by rw [beq_eq_false_iff_ne]; omega
    have hfd := fitsV_data (xs := xs) (d := d) (v := v) (t := ⟨(q : Int), (r : Int)⟩) (by show ¬ ((q : Int) = -1); omega)
    have HFD := Lib.hid hfd
    clear hfd
    go_enter Try.func127, Try.ntmps127
    go_wp2_with fail
    obtain ⟨W2, hW2⟩ : ∃ W2, W2 = ((w.alloc (.cells #[.int .i64 (q : Int), .int .i64 (r : Int)] 32)).alloc (.cells #[.int .i64 v.c, .int .i64 v.n, .slice A4 v.ks.length cap4] 53)) := ⟨_, rfl⟩
    have hB0 : Below w.heap.size w W2 := by rw [hW2]; exact ((Below.refl _ _).alloc (Nat.le_refl _) _).alloc (by simp) _
    have KT : Hid (Blk W2 w.heap.size 32 #[.int .i64 (q : Int), .int .i64 (r : Int)]) := by rw [hW2]; exact (Blk.new w _ _).same (Below.heap_alloc _ _ _ (by simp))
    have KV : Hid (Blk W2 (w.heap.size + 1) 53 #[.int .i64 v.c, .int .i64 v.n, .slice A4 v.ks.length cap4]) := by rw [hW2]; have h := Blk.new (w.alloc (.cells #[.int .i64 (q : Int), .int .i64 (r : Int)] 32)) 53 #[.int .i64 v.c, .int .i64 v.n, .slice A4 v.ks.length cap4]; rw [World.size_alloc] at h; exact h
    rw [← hW2]
    clear hW2
    have y0 : W2.cell? ⟨w.heap.size, 0, none⟩ = some (.int .i64 (q : Int)) := (KT.out.cell 0).trans (by simp)
    have y1 : W2.cell? ⟨w.heap.size, 1, none⟩ = some (.int .i64 (r : Int)) := (KT.out.cell 1).trans (by simp)
    have z0 : W2.cell? ⟨w.heap.size + 1, 0, none⟩ = some (.int .i64 v.c) := (KV.out.cell 0).trans (by simp)
    have z1 : W2.cell? ⟨w.heap.size + 1, 1, none⟩ = some (.int .i64 v.n) := (KV.out.cell 1).trans (by simp)
    have z2 : W2.cell? ⟨w.heap.size + 1, 2, none⟩ = some (.slice A4 v.ks.length cap4) := (KV.out.cell 2).trans (by simp)
    have klt := KT.out.lt
    have klt2 := KV.out.lt
    have HBQ := Lib.hid (fun n => below_drewN hB0 n)
    cases q0 : (v.n == 0) with
    | false =>
      have t1 : (v.n != 0) = true := by rw [bne, q0]; rfl
      have hf : Hid (fitsV xs (d + 1) ⟨(q : Int), (r : Int)⟩ v = false) := by rw [HFD.out, q0]; rfl
      clear q0
      go_quiet (fail)
      go_wp2
      go_ret
      exact ⟨ret_bool hf.out.symm, HBQ.out _⟩
    | true =>
      have t1 : (v.n != 0) = false := by rw [bne, q0]; rfl
      have h1 : fitsV xs (d + 1) ⟨(q : Int), (r : Int)⟩ v = (hasB (ctorsL xs ⟨(q : Int), (r : Int)⟩) v.c && (decide (v.ks.length = (argsOf xs ⟨(q : Int), (r : Int)⟩ v.c).length) && zipAll (fitsV xs d) (argsOf xs ⟨(q : Int), (r : Int)⟩ v.c) v.ks)) := by rw [HFD.out, q0, Bool.true_and]
      have H1 := Lib.hid h1
      have HIW : Hid (InWorld xs.length ⟨(q : Int), (r : Int)⟩) := .inr ⟨q, rfl, hql⟩
      clear h1 q0
      have hkeep : ∀ U U' : World, (U.cell? ⟨w.heap.size, 0, none⟩ = some (.int .i64 (q : Int)) ∧ U.cell? ⟨w.heap.size, 1, none⟩ = some (.int .i64 (r : Int)) ∧ U.cell? ⟨w.heap.size + 1, 0, none⟩ = some (.int .i64 v.c) ∧ U.cell? ⟨w.heap.size + 1, 1, none⟩ = some (.int .i64 v.n) ∧ U.cell? ⟨w.heap.size + 1, 2, none⟩ = some (.slice A4 v.ks.length cap4)) → Below U.heap.size U U' → W2.heap.size ≤ U.heap.size → (U'.cell? ⟨w.heap.size, 0, none⟩ = some (.int .i64 (q : Int)) ∧ U'.cell? ⟨w.heap.size, 1, none⟩ = some (.int .i64 (r : Int)) ∧ U'.cell? ⟨w.heap.size + 1, 0, none⟩ = some (.int .i64 v.c) ∧ U'.cell? ⟨w.heap.size + 1, 1, none⟩ = some (.int .i64 v.n) ∧ U'.cell? ⟨w.heap.size + 1, 2, none⟩ = some (.slice A4 v.ks.length cap4)) := fun U U' h hUU hU => ⟨(hUU.cell (Nat.lt_of_lt_of_le (klt) hU)).trans h.1, (hUU.cell (Nat.lt_of_lt_of_le (klt) hU)).trans h.2.1, (hUU.cell (Nat.lt_of_lt_of_le (klt2) hU)).trans h.2.2.1, (hUU.cell (Nat.lt_of_lt_of_le (klt2) hU)).trans h.2.2.2.1, (hUU.cell (Nat.lt_of_lt_of_le (klt2) hU)).trans h.2.2.2.2⟩
      have HKeep := Lib.hid hkeep
      clear hkeep
      go_region_held3 (fun w' => w'.cell? ⟨w.heap.size, 0, none⟩ = some (.int .i64 (q : Int)) ∧ w'.cell? ⟨w.heap.size, 1, none⟩ = some (.int .i64 (r : Int)) ∧ w'.cell? ⟨w.heap.size + 1, 0, none⟩ = some (.int .i64 v.c) ∧ w'.cell? ⟨w.heap.size + 1, 1, none⟩ = some (.int .i64 v.n) ∧ w'.cell? ⟨w.heap.size + 1, 2, none⟩ = some (.slice A4 v.ks.length cap4)) (first | assumption | (exact ⟨y0, y1, z0, z1, z2⟩) | (exact HKeep.out W2.drew w4 ⟨y0, y1, z0, z1, z2⟩ hb4 (Nat.le_refl _)) | (exact HKeep.out w4 w5 (by assumption) hb5 hlew4)) (first | (go_at_call 108; ((with_reducible refine (spec_l1Ctors xs ⟨(q : Int), (r : Int)⟩ _ _ F (ArrDt.below HX.out hB0.drew HF.out) (HF.out.mono hB0.drew.size) HW.out HIW.out).mono ?_); rintro e w4 ⟨v4, F4, rfl, hb4, ha4, -, hfs4⟩); have hlew4 : W2.heap.size ≤ w4.heap.size := hb4.size) | (go_at_call 154; ((with_reducible refine (spec_l1Has (ctorsL xs ⟨(q : Int), (r : Int)⟩) v.c _ _ F4 ha4 hfs4.under).mono ?_); rintro e w5 ⟨rfl, hb5⟩)))
      have hBa := hB0.drew.trans (hb4.mono hB0.drew.size)
      have hB5 := hBa.trans (hb5.mono hBa.size)
      have KT5 := Lib.hid ((KT.out.same (hb4.block _ KT.out.lt)).same (hb5.block _ (KT.out.same (hb4.block _ KT.out.lt)).lt))
      have KV5 := Lib.hid ((KV.out.same (hb4.block _ KV.out.lt)).same (hb5.block _ (KV.out.same (hb4.block _ KV.out.lt)).lt))
      clear HKeep KT KV y0 y1 z0 z1 z2 klt klt2 hBa hb4 hb5 ha4 hfs4 HBQ hB0 t1
      cases e1 : hasB (ctorsL xs ⟨(q : Int), (r : Int)⟩) v.c with
      | false =>
        have hf : Hid (fitsV xs (d + 1) ⟨(q : Int), (r : Int)⟩ v = false) := by rw [H1.out, e1]; rfl
        clear e1
        go_wp2
        go_ret
        exact ⟨ret_bool hf.out.symm, hB5⟩
      | true =>
        obtain ⟨q', k, e2, hvc, hq', hkl⟩ := mem_ctorsL (xs := xs) (t := ⟨(q : Int), (r : Int)⟩) (.inr ⟨q, rfl, hql⟩) ((hasB_iff _ _).1 e1)
        obtain rfl : q = q' := Int.ofNat.inj e2
        have h2 := H1.out
        rw [e1, Bool.true_and, hvc, argsOf_get hql hkl] at h2
        have H2 := Lib.hid h2
        clear h2 e1 e2
        have HAI := Lib.hid (fun a ha => argTy_in (HW.out.ctor hql hkl) (i := (r : Int)) (by omega) (by omega) (a := a) ha)
        have HLA := Lib.hid (HW.out.ctor hql hkl).args
        have y0 : w5.cell? ⟨w.heap.size, 0, none⟩ = some (.int .i64 (q : Int)) := (KT5.out.cell 0).trans (by simp)
        have y1 : w5.cell? ⟨w.heap.size, 1, none⟩ = some (.int .i64 (r : Int)) := (KT5.out.cell 1).trans (by simp)
        have z0 : w5.cell? ⟨w.heap.size + 1, 0, none⟩ = some (.int .i64 v.c) := (KV5.out.cell 0).trans (by simp)
        have klt := KT5.out.lt
        have klt2 := KV5.out.lt
        have HVC := Lib.hid hvc
        clear hvc
        go_wp2_with fail
        rw [HVC.out]
        refine (spec_l1Args xs q k (r : Int) hql hkl w5 _ F (ArrDt.below HX.out hB5 HF.out) (HF.out.mono hB5.size) HLA.out).mono ?_
        rintro e w6 ⟨v6, F6, rfl, hb6, ha6, -, hfs6⟩
        have hB6 := hB5.trans (hb6.mono hB5.size)
        have KV6 := Lib.hid (KV5.out.same (hb6.block _ KV5.out.lt))
        generalize hass : argsL xs[q].ctors[k] (r : Int) = ls at *
        clear hass
        obtain ⟨A6, cap6, rfl, hd3, hd4⟩ := ha6.form
        have HA6 := Lib.hid ha6
        have HU6 := Lib.hid hfs6.under
        clear ha6 hfs6 hb6 KT5 KV5 y0 y1 z0 klt klt2 hB5
        have z2 : w6.cell? ⟨w.heap.size + 1, 2, none⟩ = some (.slice A4 v.ks.length cap4) := (KV6.out.cell 2).trans (by simp)
        have klt2 := KV6.out.lt
        by_cases hln : v.ks.length = ls.length
        · have t2 : ((v.ks.length : Int) != (ls.length : Int)) = false := by simp [hln]
          have h3 : fitsV xs (d + 1) ⟨(q : Int), (r : Int)⟩ v = zipAll (fitsV xs d) ls v.ks := by rw [H2.out, decide_eq_true hln, Bool.true_and]
          have H3 := Lib.hid h3
          have HLN := Lib.hid hln
          clear h3 hln
          go_wp2
          clear z2 klt2 t2
          go_loopw [10] (fun iv wr => ∃ i : Nat, i ≤ ls.length ∧ iv = .int .i64 i ∧ Hid (fitsV xs (d + 1) ⟨(q : Int), (r : Int)⟩ v = zipAll (fitsV xs d) (ls.drop i) (v.ks.drop i)) ∧ Hid (Blk wr (w.heap.size + 1) 53 #[.int .i64 v.c, .int .i64 v.n, .slice A4 v.ks.length cap4]) ∧ Below w.heap.size w wr ∧ Hid (Below w6.heap.size w6 wr)) (fun iv _ => ls.length - (intOf iv).toNat)
          case atStart => exact ⟨0, Nat.zero_le _, rfl, H3, KV6, hB6, Below.refl _ _⟩
          case round =>
            clear hB6
            obtain ⟨i, hi, rfl, HR, KV, hB, HB6⟩ := hrel
            by_cases hil : i < ls.length
            · have hik : i < v.ks.length := by rw [HLN.out]; exact hil
              obtain ⟨b6, off6, rfl⟩ := HA6.out.ptr (by omega)
              obtain ⟨hb6, a0, a1⟩ := ArrTy.at HA6.out HU6.out HB6.out i hil
              obtain ⟨b4, off4, rfl⟩ := HA.out.ptr (by omega)
              obtain ⟨A7, cap7, G7, hb7, k0, k1, k2, HV7, HG7, -, -, -⟩ := ArrV.at HA.out HG.out hB i hik
              have z2 : wr.cell? ⟨w.heap.size + 1, 2, none⟩ = some (.slice (some ⟨b4, off4, none⟩) v.ks.length cap4) := (KV.out.cell 2).trans (by simp)
              have klt2 := KV.out.lt
              have g1 : (0 : Int) ≤ (i : Int) := by omega
              have g2 : (i : Int) < (ls.length : Int) := by omega
              have g3 : (i : Int) < (v.ks.length : Int) := by omega
              have hstep := HR.out
              rw [zipAll_step hil hik] at hstep
              have HST := Lib.hid hstep
              clear hstep
              have hwr : IntKind.i64.wrap (d : Int) = (d : Int) := IntWalk.i64_in _ (by omega)
              have HCALL := Lib.hid (IH.out v.ks[i] (List.getElem_mem hik) xs HW.out d (by omega) ls[i] (HAI.out _ (List.getElem_mem hil)) wr.drew _ F _ G7 (ArrDt.below HX.out hB.drew HF.out) (HF.out.mono hB.drew.size) (HV7.out.below hB.drew HG7.out) (HG7.out.mono hB.drew.size))
              go_wp2_with fail
              have hkeep : ∀ U U' : World, (U.cell? ⟨b6, off6 + i * 2, none⟩ = some (.int .i64 ls[i].d) ∧ U.cell? ⟨b6, off6 + i * 2 + 1, none⟩ = some (.int .i64 ls[i].i) ∧ U.cell? ⟨w.heap.size + 1, 2, none⟩ = some (.slice (some ⟨b4, off4, none⟩) v.ks.length cap4) ∧ U.cell? ⟨b4, off4 + i * 3, none⟩ = some (.int .i64 v.ks[i].c) ∧ U.cell? ⟨b4, off4 + i * 3 + 1, none⟩ = some (.int .i64 v.ks[i].n) ∧ U.cell? ⟨b4, off4 + i * 3 + 2, none⟩ = some (.slice A7 v.ks[i].ks.length cap7)) → Below U.heap.size U U' → wr.heap.size ≤ U.heap.size → (U'.cell? ⟨b6, off6 + i * 2, none⟩ = some (.int .i64 ls[i].d) ∧ U'.cell? ⟨b6, off6 + i * 2 + 1, none⟩ = some (.int .i64 ls[i].i) ∧ U'.cell? ⟨w.heap.size + 1, 2, none⟩ = some (.slice (some ⟨b4, off4, none⟩) v.ks.length cap4) ∧ U'.cell? ⟨b4, off4 + i * 3, none⟩ = some (.int .i64 v.ks[i].c) ∧ U'.cell? ⟨b4, off4 + i * 3 + 1, none⟩ = some (.int .i64 v.ks[i].n) ∧ U'.cell? ⟨b4, off4 + i * 3 + 2, none⟩ = some (.slice A7 v.ks[i].ks.length cap7)) := fun U U' h hUU hU => ⟨(hUU.cell (Nat.lt_of_lt_of_le (hb6) hU)).trans h.1, (hUU.cell (Nat.lt_of_lt_of_le (hb6) hU)).trans h.2.1, (hUU.cell (Nat.lt_of_lt_of_le (klt2) hU)).trans h.2.2.1, (hUU.cell (Nat.lt_of_lt_of_le (hb7) hU)).trans h.2.2.2.1, (hUU.cell (Nat.lt_of_lt_of_le (hb7) hU)).trans h.2.2.2.2.1, (hUU.cell (Nat.lt_of_lt_of_le (hb7) hU)).trans h.2.2.2.2.2⟩
              have HKeep := Lib.hid hkeep
              clear hkeep
              go_region_held3 (fun w' => w'.cell? ⟨b6, off6 + i * 2, none⟩ = some (.int .i64 ls[i].d) ∧ w'.cell? ⟨b6, off6 + i * 2 + 1, none⟩ = some (.int .i64 ls[i].i) ∧ w'.cell? ⟨w.heap.size + 1, 2, none⟩ = some (.slice (some ⟨b4, off4, none⟩) v.ks.length cap4) ∧ w'.cell? ⟨b4, off4 + i * 3, none⟩ = some (.int .i64 v.ks[i].c) ∧ w'.cell? ⟨b4, off4 + i * 3 + 1, none⟩ = some (.int .i64 v.ks[i].n) ∧ w'.cell? ⟨b4, off4 + i * 3 + 2, none⟩ = some (.slice A7 v.ks[i].ks.length cap7)) (first | assumption | (exact ⟨a0, a1, z2, k0, k1, k2⟩) | (exact HKeep.out wr.drew w' ⟨a0, a1, z2, k0, k1, k2⟩ hB' (Nat.le_refl _))) (first | (go_at_call 127; ((with_reducible refine HCALL.out.mono ?_); rintro e w' ⟨rfl, hB'⟩)))
              have hB3 := hB.drew.trans (hB'.mono hB.size)
              have HB3 := Lib.hid (HB6.out.drew.trans (hB'.mono HB6.out.size))
              have KV3 := Lib.hid (KV.out.same (hB'.block _ KV.out.lt))
              clear HKeep hwr
              cases e3 : fitsV xs d ls[i] v.ks[i] with
              | false =>
                have hf : Hid (fitsV xs (d + 1) ⟨(q : Int), (r : Int)⟩ v = false) := by rw [HST.out, e3]; rfl
                clear e3
                go_wp2
                go_ret
                exact ⟨ret_bool hf.out.symm, hB3⟩
              | true =>
                have hR2 : Hid (fitsV xs (d + 1) ⟨(q : Int), (r : Int)⟩ v = zipAll (fitsV xs d) (ls.drop (i + 1)) (v.ks.drop (i + 1))) := by rw [HST.out, e3, Bool.true_and]; rfl
                clear e3
                go_wp2
                go_roundw
                case rel => exact ⟨i + 1, by omega, by go_num, hR2, KV3, hB3, HB3⟩
                case measure => (simp [intOf] <;> omega)
            · have hf : Hid (fitsV xs (d + 1) ⟨(q : Int), (r : Int)⟩ v = true) := by rw [HR.out]; exact zipAll_end (by omega)
              go_wp2
              go_ret
              exact ⟨ret_bool hf.out.symm, hB⟩
        · have t2 : ((v.ks.length : Int) != (ls.length : Int)) = true := by rw [bne_iff_ne]; omega
          have hf : Hid (fitsV xs (d + 1) ⟨(q : Int), (r : Int)⟩ v = false) := by rw [H2.out, decide_eq_false hln]; rfl
          clear hln
          go_wp2
          go_ret
          exact ⟨ret_bool hf.out.symm, hB6⟩
theorem V.indv {p : V → Prop} (h : ∀ v : V, (∀ k ∈ v.ks, p k) → p v) : ∀ v, p v := V.ind fun c n ks ih => h ⟨c, n, ks⟩ ih
theorem spec_l2Fits : ∀ v, FitsS v := V.indv l2Fits_of
end Go.Proofs.Ytilndhmegaccmaa

namespace Go.Proofs.Ytilndhmegaccmaa
open Go.RowKit

section
variable {α : Type} {w w' : World} {B k : Nat} {E : TypeId} {R : World → α → List Value → List Nat → Prop} {xs : List α} {v : Value} {F : List Nat}
variable {P : Program}
theorem step_push {ops : Array Oper} {o : Oper} {a : Act} {K : Act → World → Prop} {Q : Exit → Act → World → Prop} {EE : Prop} (hgd : o.guard = none) (s x : Operand) (t : TypeId)
    (ho : o.op = .call { callee := .builtin .append, args := #[s, x], argTypes := #[t, t] })
    (i : TypeInfo) (z : Value) (bytes : Nat) (ht : P.underlying t = some (.slice E)) (hi : P.info? E = some i) (hz : i.zero = some z)
    (hsize : i.size = k) (hby : i.bytes = bytes) (hzs : z.cells.size = k) (hk : 0 < k)
    (hRl : ∀ x cs G, R w x cs G → cs.length = k) (hRm : ∀ w' x cs G, Kept G w w' → R w x cs G → R w' x cs G)
    (hs : a.eval s = v) (hown : Own w B E k R xs v F) (ys : List α) (ad : Addr) (c : Nat) (news : List Value) (G : List Nat)
    (hx : a.eval x = .slice (some ad) ys.length c) (hnews : ∀ j u, news[j]? = some u → w.cell? (ad.add j) = some u) (h1 : ∀ u ∈ news, u.oneCell' = true)
    (hys : Flat (R w) ys news G) (hG : Under w.heap.size G) (hvG : ∀ g ∈ rowOf v, g ∉ G)
    (hm : 0 < ys.length) (h63 : xs.length + ys.length ≤ maxLen) (hbytes : (xs.length + ys.length) * bytes ≤ 140737488355328) (hbase : B ≤ w.heap.size)
    (h : ∀ g cap w', Own w' B E k R (xs ++ ys) (.slice (some ⟨g, 0, none⟩) (xs.length + ys.length) cap) (F ++ G) → w.grownBy w' v.ownBlock → (v.ownBlock = some g ∨ g = w.heap.size) →
      K (a.put o.dst (.slice (some ⟨g, 0, none⟩) (xs.length + ys.length) cap)) w') : if Region.wanted o (yielded ops a.tmps) = true then Oper.wp P o a w K Q else EE := by
  obtain ⟨cs, h2, h3, h4, h5⟩ := id hown
  refine step_append_lies w hgd s x t ho B E i z k bytes ht hi hz hsize hby hzs hk v xs.length cs hs h2 ad ys.length c news hx (hys.length hRl) hnews h1 hm h63 hbytes hbase w.heap.size rfl
    fun g cap w1 hr hgr hat hlt => h g cap w1 ⟨cs ++ news, by rw [List.length_append]; exact hr, ?_, ?_, ?_⟩ hgr hat
  · exact (h3.mono fun x _ ds H hH hr => hRm w1 x ds H (grown_kept hgr (h4.sub hH) fun g hg hn => h5 g hg (hH g hn)) hr).append (hys.mono fun x _ ds H hH hr => hRm w1 x ds H (grown_kept hgr (hG.sub hH) fun g hg hn => hvG g hg (hH g hn)) hr)
  · intro b hb
    rcases List.mem_append.1 hb with hb | hb
    · exact Nat.lt_of_lt_of_le (h4 b hb) hgr.size
    · exact Nat.lt_of_lt_of_le (hG b hb) hgr.size
  · intro b hb hbF
    rw [rowOf_some, List.mem_singleton] at hb
    subst hb
    rcases hat with hat | rfl
    · rcases List.mem_append.1 hbF with hb | hb
      · exact h5 b (mem_rowOf.2 hat) hb
      · exact hvG b (mem_rowOf.2 hat) hb
    · rcases List.mem_append.1 hbF with hb | hb
      · exact Nat.lt_irrefl _ (h4 _ hb)
      · exact Nat.lt_irrefl _ (hG _ hb)


theorem step_push1 {ops : Array Oper} {o : Oper} {a : Act} {K : Act → World → Prop} {Q : Exit → Act → World → Prop} {EE : Prop} (hgd : o.guard = none) (s x : Operand) (t : TypeId)
    (ho : o.op = .call { callee := .builtin .append, args := #[s, x], argTypes := #[t, t] })
    (i : TypeInfo) (z : Value) (bytes : Nat) (ht : P.underlying t = some (.slice E)) (hi : P.info? E = some i) (hz : i.zero = some z)
    (hsize : i.size = k) (hby : i.bytes = bytes) (hzs : z.cells.size = k) (hk : 0 < k)
    (hRl : ∀ w x cs G, R w x cs G → cs.length = k) (hRm : ∀ w w' x cs G, Kept G w w' → R w x cs G → R w' x cs G)
    (hs : a.eval s = v) (hown : Own w B E k R xs v F) (y : α) (T : TypeId) (news : List Value) (G : List Nat)
    (H : Nat) (hx : a.eval x = .slice (some ⟨H, 0, none⟩) 1 1) (hH : w.heap.size = H) (h1 : ∀ u ∈ news, u.oneCell' = true)
    (hy : R w y news G) (hG : Under w.heap.size G) (hvG : ∀ g ∈ rowOf v, g ∉ G)
    (h63 : xs.length + 1 ≤ maxLen) (hbytes : (xs.length + 1) * bytes ≤ 140737488355328) (hbase : B ≤ w.heap.size)
    (h : ∀ g cap w', Own w' B E k R (xs ++ [y]) (.slice (some ⟨g, 0, none⟩) (xs.length + 1) cap) (F ++ G) → (w.alloc (.cells news.toArray T)).grownBy w' v.ownBlock → (v.ownBlock = some g ∨ g = w.heap.size + 1) →
      K (a.put o.dst (.slice (some ⟨g, 0, none⟩) (xs.length + 1) cap)) w') : if Region.wanted o (yielded ops a.tmps) = true then Oper.wp P o a (w.alloc (.cells news.toArray T)) K Q else EE := by
  subst hH
  have hb := (Below.refl w.heap.size w).alloc (Nat.le_refl _) (.cells news.toArray T)
  have hk1 : Kept G w (w.alloc (.cells news.toArray T)) := .of_below hb hG
  refine step_push hgd s x t ho i z bytes ht hi hz hsize hby hzs hk (hRl _) (fun w' => hRm _ w') hs (hown.below (fun x cs G hk h => hRm _ _ x cs G hk h) hb) [y] ⟨w.heap.size, 0, none⟩ 1 news G hx ?_ h1 (Flat.one (hRm _ _ _ _ _ hk1 hy)) (hG.mono hb.size) hvG Nat.zero_lt_one h63 hbytes (Nat.le_trans hbase hb.size)
    (fun g cap w' h2 h3 h4 => h g cap w' h2 h3 (by simpa using h4))
  intro j u hj
  exact World.news_of_block (heap_alloc_new w (.cells news.toArray T)) j u (by simpa using hj)
end
end Go.Proofs.Ytilndhmegaccmaa

namespace Go.Proofs.Ytilndhmegaccmaa
open Go.RowKit

section
variable {α : Type} {w w9 wr wA w7 : World} {D Bz H k : Nat} {T E : TypeId} {cells : Array Value} {R : World → α → List Value → List Nat → Prop} {xs ys : List α} {v v' : Value} {F G : List Nat} {o : Obj}
theorem kid_old2 (HO : Own wr Bz E k R xs v F) (hBu : Below wr.heap.size wr wA) (hgr : (wA.alloc o).grownBy w7 v.ownBlock) {b : Nat} (hb : b < Bz) (hbr : b < wr.heap.size) : w7.heap[b]? = wr.heap[b]? := by
  have hl : b < wA.heap.size := Nat.lt_of_lt_of_le hbr hBu.size
  refine ((hgr.block b (by rw [World.size_alloc]; omega) (fun e => ?_)).trans (Below.heap_alloc _ _ _ hl)).trans (hBu.block b hbr)
  have := (HO.row b (mem_rowOf.2 e.symm)).1
  omega
theorem kid_round2 (j : Nat) (hRm : ∀ w w' x cs G, Kept G w w' → R w x cs G → R w' x cs G) (hw9 : w9.heap.size = Bz) (hDB : D < Bz) (KD : Blk wr D T cells) (HO : Own wr Bz E k R xs v F) (HF : Free wr F) (HFh : ∀ b ∈ F, Bz ≤ b) (HC : Chg [D] w9 wr) (hB : Below H w wr) (hHD : H ≤ D) (hw : H ≤ w.heap.size)
    (hBu : Below wr.heap.size wr wA) (hfrA : Free wA G) (hfsA : ∀ b ∈ G, wr.heap.size ≤ b ∧ b < wA.heap.size) (hown : Own w7 Bz E k R ys v' (F ++ G)) (hgr : (wA.alloc o).grownBy w7 v.ownBlock) :
    Blk (w7.setCell ⟨D, j, none⟩ v') D T (cells.setIfInBounds j v') ∧ Own (w7.setCell ⟨D, j, none⟩ v') Bz E k R ys v' (F ++ G) ∧ Free (w7.setCell ⟨D, j, none⟩ v') (F ++ G) ∧ (∀ b ∈ F ++ G, Bz ≤ b) ∧ Chg [D] w9 (w7.setCell ⟨D, j, none⟩ v') ∧ Below H w (w7.setCell ⟨D, j, none⟩ v') ∧ w9.heap.size ≤ (w7.setCell ⟨D, j, none⟩ v').heap.size := by
  have hlt := KD.lt
  have hA := hBu.size
  have hz := HC.size
  rw [hw9] at hz
  have hFG : ∀ b ∈ F ++ G, Bz ≤ b := fun b hb => by
    rcases List.mem_append.1 hb with h | h
    · exact HFh b h
    · have := (hfsA b h).1; omega
  have hBA7 : Below Bz wA w7 := ((Below.refl Bz wA).alloc (by omega) o).grown hgr (by rw [World.size_alloc]; omega) (fun g hg => (HO.row g (mem_rowOf.2 hg)).1)
  have hC7 : Chg [D] w9 w7 := chg_under (HC.step hBu) (by rw [hw9]; exact hBA7)
  have hC8 : Chg [D] w9 (w7.setCell ⟨D, j, none⟩ v') := hC7.set (by simp)
  have hne : ∀ b ∈ F ++ G, b ≠ D := fun b hb e => by have := hFG b hb; omega
  refine ⟨?_, Own.set (j := j) hRm hown v' (fun h => by have := (hown.row _ h).1; omega) (fun h => hne _ h rfl), ?_, hFG, hC8, ?_, hC8.size⟩
  · exact (KD.same (kid_old2 HO hBu hgr hDB hlt)).set_ j v'
  · have hfr : Free wA (F ++ G) := free_app (HF.kept (.of_below hBu HO.under)) hfrA (fun b hb hG => by have h1 := HO.under b hb; have h2 := (hfsA b hG).1; omega)
    have hfr7 : Free w7 (F ++ G) := hfr.kept fun b hb => by
      have hbA : b < wA.heap.size := by
        rcases List.mem_append.1 hb with h | h
        · exact Nat.lt_of_lt_of_le (HO.under b h) hA
        · exact (hfsA b h).2
      refine (hgr.block b (by rw [World.size_alloc]; omega) (fun e => ?_)).trans (Below.heap_alloc _ _ _ hbA)
      have hrw := mem_rowOf.2 e.symm
      rcases List.mem_append.1 hb with h | h
      · exact HO.apart b hrw h
      · have h1 := (HO.row b hrw).2
        have h2 := (hfsA b h).1
        omega
    exact hfr7.kept fun b hb => Below.heap_setCell w7 ⟨D, j, none⟩ v' b (hne b hb)
  · have h8 : Below H w w7 := (hB.trans (hBu.mono (Nat.le_trans hw hB.size))).trans (hBA7.mono (by omega))
    exact h8.setCell hHD _
end
section
variable {w w0 : World} {H B : Nat} {T : TypeId} {F : List Nat}
theorem Blk.three {b0 b1 b2 : Value} (h : Blk w H T #[b0, b1, b2]) (a0 a1 a2 : Value) : Blk (((w.setCell ⟨H, 0, none⟩ a0).setCell ⟨H, 1, none⟩ a1).setCell ⟨H, 2, none⟩ a2) H T #[a0, a1, a2] := ((h.set_ 0 a0).set_ 1 a1).set_ 2 a2
theorem below_three (h : Below B w0 w) (hH : B ≤ H) (a0 a1 a2 : Value) : Below B w0 (((w.setCell ⟨H, 0, none⟩ a0).setCell ⟨H, 1, none⟩ a1).setCell ⟨H, 2, none⟩ a2) := ((h.setCell hH _).setCell hH _).setCell hH _
theorem kept_three (hF : ∀ b ∈ F, b ≠ H) (a0 a1 a2 : Value) : Kept F w (((w.setCell ⟨H, 0, none⟩ a0).setCell ⟨H, 1, none⟩ a1).setCell ⟨H, 2, none⟩ a2) := fun b hb => by
  have := hF b hb
  rw [Below.heap_setCell _ _ _ _ this, Below.heap_setCell _ _ _ _ this, Below.heap_setCell _ _ _ _ this]
theorem size_three (a0 a1 a2 : Value) : (((w.setCell ⟨H, 0, none⟩ a0).setCell ⟨H, 1, none⟩ a1).setCell ⟨H, 2, none⟩ a2).heap.size = w.heap.size := by simp [World.setCell]
end
theorem info_VE : (Try.prog.info? 53).map (fun i => (i.zero, i.size, i.bytes)) = some (some (.agg #[.int .i64 0, .int .i64 0, .slice none 0 0]), 3, 40) := by kernel_rfl
theorem VR_mono' (w w' : World) (x : V) (cs : List Value) (G : List Nat) (hk : Kept G w w') (h : VR w x cs G) : VR w' x cs G := VR.mono x cs G hk h
theorem VR_len' (w : World) (x : V) (cs : List Value) (G : List Nat) (h : VR w x cs G) : cs.length = 3 := VR_len x cs G h
/-- a call gives a value of its own -/
def MadeVt (v : V) (w : World) (e : Ending) (w' : World) : Prop := ∃ cs F, e = .returned (.agg cs.toArray) ∧ Below w.heap.size w w' ∧ VR w' v cs F ∧ Free w' F ∧ Fresh w w' F
end Go.Proofs.Ytilndhmegaccmaa

namespace Go.Proofs.Ytilndhmegaccmaa
open Go.RowKit

structure P where
  op : Int
  ct : Int
  n : Int
  m : Int
  va : Int
  ks : List P

theorem P.ind {p : P → Prop} (h : ∀ op ct n m va ks, (∀ k ∈ ks, p k) → p ⟨op, ct, n, m, va, ks⟩) : ∀ v, p v
  | ⟨op, ct, n, m, va, ks⟩ => h op ct n m va ks fun k hk => P.ind h k
termination_by v => SizeOf.sizeOf v
decreasing_by
  have := List.sizeOf_lt_of_mem hk
  simp
  omega

mutual
def P.size : P → Nat
  | ⟨_, _, _, _, _, ks⟩ => P.sizes ks
def P.sizes : List P → Nat
  | [] => 0
  | k :: ks => 1 + P.size k + P.sizes ks
end

def P.subs : List P → Nat
  | [] => 0
  | k :: ks => k.size + P.subs ks
theorem P.subs_snoc (l : List P) (x : P) : P.subs (l ++ [x]) = P.subs l + x.size := by
  induction l with
  | nil => simp [P.subs]
  | cons k l ih => simp only [List.cons_append, P.subs, ih]; omega
theorem P.sizes_eq (l : List P) : P.sizes l = l.length + P.subs l := by
  induction l with
  | nil => rfl
  | cons k l ih => simp only [P.sizes, P.subs, List.length_cons, ih]; omega
theorem P.subs_take_le (l : List P) (k : Nat) : P.subs (l.take k) ≤ P.subs l := by
  induction l generalizing k with
  | nil => simp [P.subs]
  | cons x l ih =>
    cases k with
    | zero => simp [P.subs]
    | succ k => simp only [List.take_succ_cons, P.subs]; have := ih k; omega
theorem P.subs_take_succ (l : List P) (k : Nat) (h : k < l.length) : P.subs (l.take (k + 1)) = P.subs (l.take k) + l[k].size := by
  rw [take_snoc' l k h, P.subs_snoc]
theorem P.size_lt (l : List P) (k : Nat) (h : k < l.length) : l[k].size + l.length ≤ P.sizes l := by
  have h2 := P.subs_take_le l (k + 1)
  rw [P.subs_take_succ l k h] at h2
  rw [P.sizes_eq]
  omega

mutual
def PR (w : World) : P → List Value → List Nat → Prop
  | ⟨op, ct, n, m, va, ks⟩, cs, F => ∃ A cap, cs = [.int .i64 op, .int .i64 ct, .int .i64 n, .int .i64 m, .int .i64 va, .slice A ks.length cap] ∧ ks.length ≤ cap ∧ cap ≤ maxLen ∧ ((ks = [] ∧ F = []) ∨ ∃ b off ds G, A = some ⟨b, off, none⟩ ∧ CellsAt w b off ds ∧ PRs w ks ds G ∧ F = b :: G)
def PRs (w : World) : List P → List Value → List Nat → Prop
  | [], cs, F => cs = [] ∧ F = []
  | x :: xs, cs, F => ∃ c1 c2 F1 F2, cs = c1 ++ c2 ∧ F = F1 ++ F2 ∧ PR w x c1 F1 ∧ PRs w xs c2 F2
end

theorem PRs_eq (w : World) (ks : List P) : ∀ cs F, PRs w ks cs F ↔ Flat (PR w) ks cs F := by
  induction ks with
  | nil => intro cs F; simp [PRs, Flat]
  | cons k ks ih =>
    intro cs F
    simp only [PRs, Flat, ih]

theorem PR_iff {w : World} (v : P) (cs : List Value) (F : List Nat) : PR w v cs F ↔ ∃ kv, cs = [.int .i64 v.op, .int .i64 v.ct, .int .i64 v.n, .int .i64 v.m, .int .i64 v.va, kv] ∧ Arr w (PR w) v.ks kv F := by
  obtain ⟨op, ct, n, m, va, ks⟩ := v
  simp only [PR, Arr, PRs_eq]
  constructor
  · rintro ⟨A, cap, rfl, h1, h2, h3⟩
    exact ⟨_, rfl, A, cap, rfl, h1, h2, h3⟩
  · rintro ⟨kv, rfl, A, cap, rfl, h1, h2, h3⟩
    exact ⟨A, cap, rfl, h1, h2, h3⟩

theorem PR_len {w : World} (v : P) (cs : List Value) (F : List Nat) (h : PR w v cs F) : cs.length = 6 := by
  obtain ⟨kv, rfl, -⟩ := (PR_iff _ _ _).1 h
  rfl

theorem PR.mono {w w' : World} : ∀ v cs F, Kept F w w' → PR w v cs F → PR w' v cs F := by
  refine P.ind fun op ct n m va ks ih cs F hF h => ?_
  rw [PR_iff] at h ⊢
  obtain ⟨kv, rfl, h⟩ := h
  exact ⟨kv, rfl, h.mono hF ih⟩

theorem PR.below {w w' : World} {B : Nat} {v : P} {cs : List Value} {F : List Nat} (h : PR w v cs F) (hb : Below B w w') (hF : Under B F) : PR w' v cs F := PR.mono v cs F (.of_below hb hF) h

theorem PR.drew {w : World} {v : P} {cs : List Value} {F : List Nat} (h : PR w v cs F) : PR w.drew v cs F := PR.mono (w := w) v cs F (fun _ _ => rfl) h
theorem PR.drewN {w : World} {v : P} {cs : List Value} {F : List Nat} (h : PR w v cs F) (n : Nat) : PR (w.drewN n) v cs F := PR.mono (w := w) v cs F (fun _ _ => rfl) h

theorem ArrP.mono {w w' : World} {vs : List P} {x : Value} {F : List Nat} (h : Arr w (PR w) vs x F) (hF : Kept F w w') : Arr w' (PR w') vs x F := h.mono hF fun v _ => PR.mono v
theorem ArrP.below {w w' : World} {B : Nat} {vs : List P} {x : Value} {F : List Nat} (h : Arr w (PR w) vs x F) (hb : Below B w w') (hF : Under B F) : Arr w' (PR w') vs x F := ArrP.mono h (.of_below hb hF)

end Go.Proofs.Ytilndhmegaccmaa

namespace Go.Proofs.Ytilndhmegaccmaa
open Go.RowKit

mutual
def patOf : V → P
  | ⟨c, n, ks⟩ => if c = -1 then ⟨3, 0, n, n, 0, []⟩ else ⟨4, c, 0, 0, 0, patOfs ks⟩
def patOfs : List V → List P
  | [] => []
  | k :: ks => patOf k :: patOfs ks
end
theorem patOfs_eq (l : List V) : patOfs l = l.map patOf := by
  induction l with
  | nil => rfl
  | cons k l ih => rw [patOfs, ih]; rfl
theorem patOf_num {v : V} (h : v.c = -1) : patOf v = ⟨3, 0, v.n, v.n, 0, []⟩ := by
  obtain ⟨c, n, ks⟩ := v
  rw [patOf]; exact if_pos h
theorem patOf_ctor {v : V} (h : ¬ v.c = -1) : patOf v = ⟨4, v.c, 0, 0, 0, v.ks.map patOf⟩ := by
  obtain ⟨c, n, ks⟩ := v
  rw [patOf, patOfs_eq]; exact if_neg h
def patTo (ks : List V) (i : Nat) : List P := (ks.take i).map patOf
theorem patTo_succ (ks : List V) (i : Nat) (h : i < ks.length) : patTo ks (i + 1) = patTo ks i ++ [patOf ks[i]] := by
  unfold patTo
  rw [take_snoc' ks i h, List.map_append]; rfl
theorem patTo_all (ks : List V) {i : Nat} (h : ks.length ≤ i) : patTo ks i = ks.map patOf := by unfold patTo; rw [List.take_of_length_le h]
theorem patTo_len (ks : List V) (i : Nat) : (patTo ks i).length ≤ i := by unfold patTo; rw [List.length_map, List.length_take]; omega
end Go.Proofs.Ytilndhmegaccmaa

namespace Go.Proofs.Ytilndhmegaccmaa
open Go

section
variable {P : Program} {ops : Array Oper} {Q : Exit → Act → World → Prop} {md : Region.Mode} {S T : World → Prop} {d : Nat}

/-- behind every operation S holds, and T as long as operation d has not come up -/
def wpAnyB (P : Program) (md : Region.Mode) (ops : Array Oper) (Q : Exit → Act → World → Prop) (S T : World → Prop) (d : Nat) : Nat → Array Bool → Act → World → Prop
  | 0, listed, a, w => Region.ready md ops listed = [] ∧ Q .normal a w
  | fuel + 1, listed, a, w =>
    (Region.ready md ops listed = [] → Q .normal a w) ∧
    ∀ i ∈ Region.ready md ops listed, wpOp P ops Q i (fun a' w' => (S w' ∧ ((listed.setIfInBounds i true).getD d false = false → T w')) ∧ wpAnyB P md ops Q S T d fuel (listed.setIfInBounds i true) a' w') a w
theorem wpAny_of_B : ∀ (fuel : Nat) (listed : Array Bool) (a : Act) (w : World), wpAnyB P md ops Q S T d fuel listed a w → wpAny P md ops Q fuel listed a w
  | 0, _, _, _, h => h
  | fuel + 1, _, _, _, h => ⟨h.1, fun i hi => wpOp_mono (fun _ _ h' => wpAny_of_B fuel _ _ _ h'.2) (h.2 i hi)⟩
/-- an operation that yields under S alone -/
theorem wpAnyB_first {i : Nat} {oi : Oper} {v : Value} (hi : ops[i]? = some oi) (hid : i ≠ d) (hsel : ∀ (j : Nat) (o : Oper) cs b, ops[j]? = some o → o.op ≠ .select cs b)
    (hQ : ∀ c a w, Q (.panic c) (a.put oi.dst v) w → Q (.panic c) a w) :
    ∀ (fuel : Nat) (listed : Array Bool) (a : Act) (w : World),
      (∀ j oj, ops[j]? = some oj → j ≠ i → listed.getD j true = false → (∀ e ∈ oj.after, Region.binds md e = true → e.on ≠ i) → oi.apart ops oj = true) →
      i ∈ Region.ready md ops listed → YieldsIf P ops S oi v a → S w → (listed.getD d false = false → T w) →
      wpAnyB P md ops Q S T d fuel (listed.setIfInBounds i true) (a.put oi.dst v) w → wpAnyB P md ops Q S T d (fuel + 1) listed a w := by
  intro fuel
  induction fuel with
  | zero =>
    intro listed a w _ hr hy hS hT H
    refine ⟨fun h => (by rw [h] at hr; cases hr), fun j hj => ?_⟩
    by_cases hji : j = i
    · subst hji; exact hy.wpOp hi hS ⟨⟨hS, fun h => hT (by rwa [getD_set_ne false hid] at h)⟩, H⟩
    · have := ready_mono hj hji
      rw [H.1] at this
      cases this
  | succ fuel ih =>
    intro listed a w hfree hr hy hS hT H
    refine ⟨fun h => (by rw [h] at hr; cases hr), fun j hj => ?_⟩
    by_cases hji : j = i
    · subst hji; exact hy.wpOp hi hS ⟨⟨hS, fun h => hT (by rwa [getD_set_ne false hid] at h)⟩, H⟩
    · have h1 := H.2 j (ready_mono hj hji)
      obtain ⟨hjun, oj, hoj, hall⟩ := mem_ready.1 hj
      have hnot : ∀ e ∈ oj.after, Region.binds md e = true → e.on ≠ i := fun e he hb heq => by
        have h1 := hall e he hb
        have h0 := (mem_ready.1 hr).1
        rw [heq] at h1
        rcases Nat.lt_or_ge i listed.size with h' | h'
        · simp [h'] at h0 h1; rw [h0] at h1; cases h1
        · simp [Array.getElem?_eq_none h'] at h1
      have h2 := wpOp_putIf hoj (hfree j oj hoj hji hjun hnot) (fun cs b => hsel i oi cs b hi) (fun cs b => hsel j oj cs b hoj) hQ hy h1
      have hfree' : ∀ k ok, ops[k]? = some ok → k ≠ i → (listed.setIfInBounds j true).getD k true = false →
          (∀ e ∈ ok.after, Region.binds md e = true → e.on ≠ i) → oi.apart ops ok = true := fun k ok hk hki hun hno => by
        refine hfree k ok hk hki ?_ hno
        by_cases hjk : j = k
        · subst hjk; exact hjun
        · rw [getD_set_ne true hjk] at hun; exact hun
      have hbit : ((listed.setIfInBounds i true).setIfInBounds j true).getD d false = (listed.setIfInBounds j true).getD d false := by
        rw [Array.setIfInBounds_comm _ _ (Ne.symm hji), getD_set_ne false hid]
      refine wpOp_mono (fun a' w' h3 => ⟨⟨h3.2.1.1, fun h => h3.2.1.2 (hbit.trans h)⟩, ih (listed.setIfInBounds j true) a' w' hfree' (ready_mono hr (Ne.symm hji)) h3.1 h3.2.1.1 (fun h => h3.2.1.2 (hbit.trans h)) ?_⟩) h2
      rw [Array.setIfInBounds_comm _ _ hji]
      exact h3.2.2
/-- an operation that yields under S and T, for which operation d waits -/
theorem wpAnyB_firstT {i : Nat} {oi od : Oper} {v : Value} (hi : ops[i]? = some oi) (hid : i ≠ d) (hd : ops[d]? = some od) (hdi : ∃ e ∈ od.after, Region.binds md e = true ∧ e.on = i) (hsel : ∀ (j : Nat) (o : Oper) cs b, ops[j]? = some o → o.op ≠ .select cs b)
    (hQ : ∀ c a w, Q (.panic c) (a.put oi.dst v) w → Q (.panic c) a w) :
    ∀ (fuel : Nat) (listed : Array Bool) (a : Act) (w : World),
      (∀ j oj, ops[j]? = some oj → j ≠ i → listed.getD j true = false → (∀ e ∈ oj.after, Region.binds md e = true → e.on ≠ i) → oi.apart ops oj = true) →
      i ∈ Region.ready md ops listed → YieldsIf P ops (fun w => S w ∧ T w) oi v a → listed.getD d false = false → S w → T w →
      wpAnyB P md ops Q S T d fuel (listed.setIfInBounds i true) (a.put oi.dst v) w → wpAnyB P md ops Q S T d (fuel + 1) listed a w := by
  intro fuel
  induction fuel with
  | zero =>
    intro listed a w _ hr hy hdf hS hT H
    refine ⟨fun h => (by rw [h] at hr; cases hr), fun j hj => ?_⟩
    by_cases hji : j = i
    · subst hji; exact hy.wpOp hi ⟨hS, hT⟩ ⟨⟨hS, fun _ => hT⟩, H⟩
    · have := ready_mono hj hji
      rw [H.1] at this
      cases this
  | succ fuel ih =>
    intro listed a w hfree hr hy hdf hS hT H
    refine ⟨fun h => (by rw [h] at hr; cases hr), fun j hj => ?_⟩
    by_cases hji : j = i
    · subst hji; exact hy.wpOp hi ⟨hS, hT⟩ ⟨⟨hS, fun _ => hT⟩, H⟩
    · have h1 := H.2 j (ready_mono hj hji)
      obtain ⟨hjun, oj, hoj, hall⟩ := mem_ready.1 hj
      have hnot : ∀ e ∈ oj.after, Region.binds md e = true → e.on ≠ i := fun e he hb heq => by
        have h1 := hall e he hb
        have h0 := (mem_ready.1 hr).1
        rw [heq] at h1
        rcases Nat.lt_or_ge i listed.size with h' | h'
        · simp [h'] at h0 h1; rw [h0] at h1; cases h1
        · simp [Array.getElem?_eq_none h'] at h1
      have hjd : j ≠ d := fun e => by
        subst e
        rw [hoj] at hd
        cases hd
        obtain ⟨e, he, hb, ho⟩ := hdi
        exact hnot e he hb ho
      have h2 := wpOp_putIf hoj (hfree j oj hoj hji hjun hnot) (fun cs b => hsel i oi cs b hi) (fun cs b => hsel j oj cs b hoj) hQ hy h1
      have hfree' : ∀ k ok, ops[k]? = some ok → k ≠ i → (listed.setIfInBounds j true).getD k true = false →
          (∀ e ∈ ok.after, Region.binds md e = true → e.on ≠ i) → oi.apart ops ok = true := fun k ok hk hki hun hno => by
        refine hfree k ok hk hki ?_ hno
        by_cases hjk : j = k
        · subst hjk; exact hjun
        · rw [getD_set_ne true hjk] at hun; exact hun
      have hdf2 : (listed.setIfInBounds j true).getD d false = false := by rw [getD_set_ne false hjd]; exact hdf
      have hdf3 : ((listed.setIfInBounds i true).setIfInBounds j true).getD d false = false := by rw [getD_set_ne false hjd, getD_set_ne false hid]; exact hdf
      refine wpOp_mono (fun a' w' h3 => ⟨⟨h3.2.1.1, fun _ => h3.2.1.2 hdf3⟩, ih (listed.setIfInBounds j true) a' w' hfree' (ready_mono hr (Ne.symm hji)) h3.1 hdf2 h3.2.1.1 (h3.2.1.2 hdf3) ?_⟩) h2
      rw [Array.setIfInBounds_comm _ _ hji]
      exact h3.2.2
theorem wpAnyB_take {i : Nat} {oi : Oper} {v : Value} {fuel : Nat} {listed : Array Bool} {a : Act} {w : World} (hi : ops[i]? = some oi) (hid : i ≠ d)
    (hs : Region.noSelect ops = true) (hf : Region.free md ops listed i = true) (hr : (Region.ready md ops listed).contains i = true)
    (hQ : ∀ c a w, Q (.panic c) (a.put oi.dst v) w → Q (.panic c) a w) (hy : YieldsIf P ops S oi v a) (hS : S w) (hT : listed.getD d false = false → T w)
    (h : wpAnyB P md ops Q S T d fuel (listed.setIfInBounds i true) (a.put oi.dst v) w) : wpAnyB P md ops Q S T d (fuel + 1) listed a w :=
  wpAnyB_first hi hid (Region.noSelect_spec hs) hQ fuel listed a w (Region.free_spec hi hf) (by simpa using hr) hy hS hT h
theorem wpAnyB_takeT {i : Nat} {oi od : Oper} {v : Value} {fuel : Nat} {listed : Array Bool} {a : Act} {w : World} (hi : ops[i]? = some oi) (hid : i ≠ d) (hd : ops[d]? = some od) (hdi : ∃ e ∈ od.after, Region.binds md e = true ∧ e.on = i)
    (hs : Region.noSelect ops = true) (hf : Region.free md ops listed i = true) (hr : (Region.ready md ops listed).contains i = true)
    (hQ : ∀ c a w, Q (.panic c) (a.put oi.dst v) w → Q (.panic c) a w) (hy : YieldsIf P ops (fun w => S w ∧ T w) oi v a) (hdf : listed.getD d false = false) (hS : S w) (hT : T w)
    (h : wpAnyB P md ops Q S T d fuel (listed.setIfInBounds i true) (a.put oi.dst v) w) : wpAnyB P md ops Q S T d (fuel + 1) listed a w :=
  wpAnyB_firstT hi hid hd hdi (Region.noSelect_spec hs) hQ fuel listed a w (Region.free_spec hi hf) (by simpa using hr) hy hdf hS hT h
theorem wpAnyB_takeB {i : Nat} {oi od : Oper} {v : Value} {fuel : Nat} {listed : Array Bool} {a : Act} {w : World} (hi : ops[i]? = some oi) (hid : i ≠ d) (hd : ops[d]? = some od) (hdi : (od.after.any fun e => Region.binds md e && e.on == i) = true)
    (hs : Region.noSelect ops = true) (hf : Region.free md ops listed i = true) (hr : (Region.ready md ops listed).contains i = true)
    (hQ : ∀ c a w, Q (.panic c) (a.put oi.dst v) w → Q (.panic c) a w) (hy : YieldsIf P ops (fun w => S w ∧ T w) oi v a) (hdf : listed.getD d false = false) (hS : S w) (hT : T w)
    (h : wpAnyB P md ops Q S T d fuel (listed.setIfInBounds i true) (a.put oi.dst v) w) : wpAnyB P md ops Q S T d (fuel + 1) listed a w :=
  wpAnyB_takeT hi hid hd (by
    obtain ⟨k, hk, hb⟩ := Array.any_eq_true.1 hdi
    rw [Bool.and_eq_true, beq_iff_eq] at hb
    exact ⟨_, Array.getElem_mem hk, hb.1, hb.2⟩) hs hf hr hQ hy hdf hS hT h
theorem wpAnyB_all {rs : List Nat} {fuel : Nat} {listed : Array Bool} {a : Act} {w : World} (hr : Region.ready md ops listed = rs) (hne : rs ≠ [])
    (h : ∀ i ∈ rs, wpOp P ops Q i (fun a' w' => (S w' ∧ ((listed.setIfInBounds i true).getD d false = false → T w')) ∧ wpAnyB P md ops Q S T d fuel (listed.setIfInBounds i true) a' w') a w) : wpAnyB P md ops Q S T d (fuel + 1) listed a w :=
  ⟨fun h0 => absurd (hr ▸ h0) hne, hr ▸ h⟩
theorem wpAnyB_done {listed : Array Bool} {a : Act} {w : World} (hr : Region.ready md ops listed = []) (h : Q .normal a w) : ∀ fuel, wpAnyB P md ops Q S T d fuel listed a w
  | 0 => ⟨hr, h⟩
  | _ + 1 => ⟨fun _ => h, by rw [hr]; simp⟩
theorem wp_region_B {id : Nat} {a : Act} {w : World} (hm : P.follows .mixedOrders = true)
    (h : wpAnyB P .any ops Q S T d ops.size (Array.replicate ops.size false) a w.drew) : (Code.region id ops true).wp P Q a w :=
  wp_region_any hm (wpAny_of_B _ _ _ _ h)
/-- each of the operations rs comes up next; what must then be shown: S, T as long as d has not come up, and the rest -/
def AllReadyB (P : Program) (md : Region.Mode) (ops : Array Oper) (Q : Exit → Act → World → Prop) (S T : World → Prop) (d fuel : Nat) (listed : Array Bool) (a : Act) (w : World) (rs : List Nat) : Prop :=
  ∀ i ∈ rs, wpOp P ops Q i (fun a' w' => (S w' ∧ ((listed.setIfInBounds i true).getD d false = false → T w')) ∧ wpAnyB P md ops Q S T d fuel (listed.setIfInBounds i true) a' w') a w
theorem AllReadyB.nil {fuel : Nat} {listed : Array Bool} {a : Act} {w : World} : AllReadyB P md ops Q S T d fuel listed a w [] := fun _ h => by cases h
theorem AllReadyB.cons {fuel : Nat} {listed : Array Bool} {a : Act} {w : World} {i : Nat} {o : Oper} {rs : List Nat} (ho : ops[i]? = some o)
    (h : ∀ K' : Act → World → Prop, Shut (∀ a w, S w → ((listed.setIfInBounds i true).getD d false = false → T w) → wpAnyB P md ops Q S T d fuel (listed.setIfInBounds i true) a w → K' a w) → if Region.wanted o (yielded ops a.tmps) = true then Oper.wp P o a w K' Q else K' (a.put o.dst undef) w)
    (hs : AllReadyB P md ops Q S T d fuel listed a w rs) : AllReadyB P md ops Q S T d fuel listed a w (i :: rs) := fun j hj => by
  rcases List.mem_cons.1 hj with rfl | hj
  · exact wpOp_step ho (fun K' hK => h K' (fun a w h1 h2 h3 => hK a w ⟨⟨h1, h2⟩, h3⟩))
  · exact hs j hj
theorem wpAnyB_ready {rs : List Nat} {fuel : Nat} {listed : Array Bool} {a : Act} {w : World} (hr : Region.ready md ops listed = rs) (hne : rs ≠ [])
    (h : AllReadyB P md ops Q S T d fuel listed a w rs) : wpAnyB P md ops Q S T d (fuel + 1) listed a w := wpAnyB_all hr hne h
theorem wpAnyB_end {fuel : Nat} {listed : Array Bool} {a : Act} {w : World} (hr : (Region.ready md ops listed).isEmpty = true) (h : Q .normal a w) : wpAnyB P md ops Q S T d fuel listed a w :=
  wpAnyB_done (List.isEmpty_iff.1 hr) h fuel
end
end Go.Proofs.Ytilndhmegaccmaa

namespace Go.Proofs.Ytilndhmegaccmaa
open Go.RowKit

theorem results_cell_row {P : Program} {fn : Func} {p : Tmp} {ty : TypeId} (h : fn.results = #[.cell p ty]) (tmps : Array Value) (w : World) (g : Nat) (t : TypeId) (cs : Array Value) (fr : Nat × Nat) (d : TypeDesc)
    (hp : tmps.getD p undef = .pointer (some ⟨g, 0, none⟩)) (hg : w.heap[g]? = some (.cells cs t fr))
    (hu : P.underlying ty = some d) (hd : (match d with | .struct _ | .array _ _ => true | _ => false) = true) (hi : (P.info? ty).map (·.size) = some cs.size) :
    (results fn tmps).run P w = .ok (.agg cs) w := by
  have hp' : tmps[p]?.getD undef = .pointer (some ⟨g, 0, none⟩) := by simpa using hp
  simp [results, h, hp', asAddr, run_loadVar_row w g t ty cs fr d hg hu hd hi]
theorem results_cell_tmp {P : Program} {fn : Func} {p v : Tmp} {ty : TypeId} (h : fn.results = #[.cell p ty, .tmp v]) (tmps : Array Value) (w : World) (g : Nat) (t : TypeId) (cs : Array Value) (fr : Nat × Nat) (d : TypeDesc)
    (hp : tmps.getD p undef = .pointer (some ⟨g, 0, none⟩)) (hg : w.heap[g]? = some (.cells cs t fr))
    (hu : P.underlying ty = some d) (hd : (match d with | .struct _ | .array _ _ => true | _ => false) = true) (hi : (P.info? ty).map (·.size) = some cs.size) :
    (results fn tmps).run P w = .ok (.tuple #[.agg cs, tmps.getD v undef]) w := by
  have hp' : tmps[p]?.getD undef = .pointer (some ⟨g, 0, none⟩) := by simpa using hp
  simp [results, h, hp', asAddr, run_loadVar_row w g t ty cs fr d hg hu hd hi]
theorem blk_second (w : World) (o : Obj) (T : TypeId) (C : Array Value) : Blk ((w.alloc o).alloc (.cells C T)) (w.heap.size + 1) T C := by
  have h := Blk.new (w.alloc o) T C
  rw [World.size_alloc] at h
  exact h
section
variable {w w0 : World} {H B : Nat} {T : TypeId} {F : List Nat}
theorem Blk.six {b0 b1 b2 b3 b4 b5 : Value} (h : Blk w H T #[b0, b1, b2, b3, b4, b5]) (a0 a1 a2 a3 a4 a5 : Value) : Blk ((((((w.setCell ⟨H, 0, none⟩ a0).setCell ⟨H, 1, none⟩ a1).setCell ⟨H, 2, none⟩ a2).setCell ⟨H, 3, none⟩ a3).setCell ⟨H, 4, none⟩ a4).setCell ⟨H, 5, none⟩ a5) H T #[a0, a1, a2, a3, a4, a5] := (((((h.set_ 0 a0).set_ 1 a1).set_ 2 a2).set_ 3 a3).set_ 4 a4).set_ 5 a5
theorem below_six (h : Below B w0 w) (hH : B ≤ H) (a0 a1 a2 a3 a4 a5 : Value) : Below B w0 ((((((w.setCell ⟨H, 0, none⟩ a0).setCell ⟨H, 1, none⟩ a1).setCell ⟨H, 2, none⟩ a2).setCell ⟨H, 3, none⟩ a3).setCell ⟨H, 4, none⟩ a4).setCell ⟨H, 5, none⟩ a5) := (((((h.setCell hH _).setCell hH _).setCell hH _).setCell hH _).setCell hH _).setCell hH _
theorem kept_six (hF : ∀ b ∈ F, b ≠ H) (a0 a1 a2 a3 a4 a5 : Value) : Kept F w ((((((w.setCell ⟨H, 0, none⟩ a0).setCell ⟨H, 1, none⟩ a1).setCell ⟨H, 2, none⟩ a2).setCell ⟨H, 3, none⟩ a3).setCell ⟨H, 4, none⟩ a4).setCell ⟨H, 5, none⟩ a5) := fun b hb => by
  have := hF b hb
  rw [Below.heap_setCell _ _ _ _ this, Below.heap_setCell _ _ _ _ this, Below.heap_setCell _ _ _ _ this, Below.heap_setCell _ _ _ _ this, Below.heap_setCell _ _ _ _ this, Below.heap_setCell _ _ _ _ this]
theorem size_six (a0 a1 a2 a3 a4 a5 : Value) : ((((((w.setCell ⟨H, 0, none⟩ a0).setCell ⟨H, 1, none⟩ a1).setCell ⟨H, 2, none⟩ a2).setCell ⟨H, 3, none⟩ a3).setCell ⟨H, 4, none⟩ a4).setCell ⟨H, 5, none⟩ a5).heap.size = w.heap.size := by simp [World.setCell]
end

theorem info_PE : (Try.prog.info? 25).map (fun i => (i.zero, i.size, i.bytes)) = some (some (.agg #[.int .i64 0, .int .i64 0, .int .i64 0, .int .i64 0, .int .i64 0, .slice none 0 0]), 6, 64) := by kernel_rfl
theorem PR_mono' (w w' : World) (x : P) (cs : List Value) (G : List Nat) (hk : Kept G w w') (h : PR w x cs G) : PR w' x cs G := PR.mono x cs G hk h
theorem PR_len' (w : World) (x : P) (cs : List Value) (G : List Nat) (h : PR w x cs G) : cs.length = 6 := PR_len x cs G h
/-- a call gives a pattern of its own -/
def MadePt (p : P) (w : World) (e : Ending) (w' : World) : Prop := ∃ cs F, e = .returned (.agg cs.toArray) ∧ Below w.heap.size w w' ∧ PR w' p cs F ∧ Free w' F ∧ Fresh w w' F
def PatOfP (fn : FuncId) (v : V) : Prop := ∀ (w : World) (cs : List Value) (G : List Nat), VR w v cs G → Under w.heap.size G → v.size ≤ 1048576 →
  Calls Try.prog fn #[.agg cs.toArray] w (MadePt (patOf v) w)
theorem V.sizes_mem' (l : List V) (k : Nat) (h : k < l.length) : l[k].size ≤ V.sizes l := by
  have := V.size_lt l k h
  omega


end Go.Proofs.Ytilndhmegaccmaa

namespace Go.Proofs.Ytilndhmegaccmaa
open Go.RowKit

/-- the first i parts -/
def kidTo (ks : List V) (i : Nat) : List V := ks.take i
theorem kidTo_len (ks : List V) (i : Nat) : (kidTo ks i).length ≤ i := by unfold kidTo; rw [List.length_take]; omega
theorem kidTo_succ (ks : List V) (i : Nat) (h : i < ks.length) : kidTo ks (i + 1) = kidTo ks i ++ [ks[i]] := take_snoc' ks i h
theorem kidTo_all (ks : List V) {i : Nat} (h : ks.length ≤ i) : kidTo ks i = ks := List.take_of_length_le h
theorem V.sizes_mem2 (l : List V) (k : Nat) (h : k < l.length) : l[k].size ≤ V.sizes l := by
  have := V.size_lt l k h
  omega
def CopyV (fn : FuncId) (v : V) : Prop := ∀ (w : World) (cs : List Value) (G : List Nat), VR w v cs G → Under w.heap.size G → v.size ≤ 1048576 →
  Calls Try.prog fn #[.agg cs.toArray] w (MadeVt v w)
end Go.Proofs.Ytilndhmegaccmaa

namespace Go.Proofs.Ytilndhmegaccmaa
open Go.RowKit

/-- the values up to a depth are listed: not too many, the depth in range, the type valid -/
def uptoB (xs : List Dt) (t : Ty) (dp : Int) : Bool := typeValidB xs t && (withinB dp 0 4 && decide ((valsL xs dp.toNat t).length ≤ 400))
def uptoV (xs : List Dt) (t : Ty) (dp : Int) : List V := if uptoB xs t dp = true then valsL xs dp.toNat t else []
theorem uptoV_no {xs : List Dt} {t : Ty} {dp : Int} (h : uptoB xs t dp = false) : uptoV xs t dp = [] := if_neg (by simp [h])
theorem uptoV_yes {xs : List Dt} {t : Ty} {dp : Int} (h : uptoB xs t dp = true) : uptoV xs t dp = valsL xs dp.toNat t := if_pos h
theorem upto_split {xs : List Dt} {t : Ty} {dp : Int} (h : uptoB xs t dp = true) : WorldOK xs ∧ TyIn xs.length t ∧ (∃ n : Nat, dp = (n : Int) ∧ n ≤ 4) ∧ (valsL xs dp.toNat t).length ≤ 400 := by
  unfold uptoB at h
  simp only [Bool.and_eq_true, decide_eq_true_iff, withinB_iff] at h
  obtain ⟨h1, h2, h3⟩ := h
  obtain ⟨hw, ht⟩ := typeValid_split h1
  exact ⟨hw, typeOkB_tyIn ht, ⟨dp.toNat, by omega, by omega⟩, h3⟩
theorem uptoV_len (xs : List Dt) (t : Ty) (dp : Int) : (uptoV xs t dp).length ≤ 400 := by
  cases h : uptoB xs t dp with
  | false => rw [uptoV_no h]; simp
  | true => rw [uptoV_yes h]; exact (upto_split h).2.2.2
theorem uptoV_small {xs : List Dt} {t : Ty} {dp : Int} {v : V} (h : v ∈ uptoV xs t dp) : nodes v ≤ 60 := by
  cases hb : uptoB xs t dp with
  | false => rw [uptoV_no hb] at h; cases h
  | true =>
    rw [uptoV_yes hb] at h
    obtain ⟨hw, ht, ⟨n, hn, h4⟩, -⟩ := upto_split hb
    exact (vals_small hw (by omega) ht h).1
/-- a list of values of the call's own, and a Boolean -/
def MadeVals2 (vs : List V) (b : Bool) (w : World) (e : Ending) (w' : World) : Prop := ∃ v F, e = .returned (.tuple #[v, .bool b]) ∧ Below w.heap.size w w' ∧ Arr w' (VR w') vs v F ∧ Free w' F ∧ Fresh w w' F
theorem upto_rw {P : Program} {f : FuncId} {as' : Array Value} {w : World} {vs : List V} {b b' : Bool} (h : b = b') (c : Calls P f as' w (MadeVals2 vs b w)) : Calls P f as' w (MadeVals2 vs b' w) := h ▸ c
theorem push_free {w w1 w2 : World} {v : Value} {F G : List Nat} {o : Obj} (hF : Free w F) (hFu : Under w.heap.size F) (hb : Below w.heap.size w w1) (hG : Free w1 G) (hGf : ∀ b ∈ G, w.heap.size ≤ b ∧ b < w1.heap.size)
    (hg : (w1.alloc o).grownBy w2 v.ownBlock) (hv : ∀ g ∈ rowOf v, g ∉ F) (hvl : ∀ g ∈ rowOf v, g < w.heap.size) : Free w2 (F ++ G) := by
  have h1 : Under (w1.alloc o).heap.size (F ++ G) := fun b hb' => by
    rw [World.size_alloc]
    rcases List.mem_append.1 hb' with h | h
    · have := hFu b h; have := hb.size; omega
    · have := (hGf b h).2; omega
  have hkF : Kept F w (w1.alloc o) := fun b h => (Below.heap_alloc _ _ _ (Nat.lt_of_lt_of_le (hFu b h) hb.size)).trans (hb.block b (hFu b h))
  have hkG : Kept G w1 (w1.alloc o) := fun b h => Below.heap_alloc _ _ _ (hGf b h).2
  have h2 : Free (w1.alloc o) (F ++ G) := by
    refine ⟨List.nodup_append.2 ⟨hF.1, hG.1, fun a ha c hc hac => ?_⟩, fun b hb' i => ?_⟩
    · subst hac
      exact Nat.lt_irrefl _ (Nat.lt_of_lt_of_le (hFu _ ha) (hGf _ hc).1)
    · rcases List.mem_append.1 hb' with h | h
      · exact (hF.kept hkF).2 b h i
      · exact (hG.kept hkG).2 b h i
  exact h2.kept (grown_kept hg h1 fun g hg hgF => by
    rcases List.mem_append.1 hgF with h | h
    · exact hv g hg h
    · exact Nat.lt_irrefl _ (Nat.lt_of_lt_of_le (hvl g hg) (hGf g h).1))
end Go.Proofs.Ytilndhmegaccmaa

namespace Go.Proofs.Ytilndhmegaccmaa
open Go.RowKit

theorem min_mul (a b : Nat) : (if (401 : Int) < (a : Int) * (b : Int) then (401 : Int) else (a : Int) * (b : Int)) = ((min (a * b) 401 : Nat) : Int) := by
  rw [← Int.natCast_mul]
  split <;> omega
theorem min_add (a b : Nat) : (if (401 : Int) < (a : Int) + (b : Int) then (401 : Int) else (a : Int) + (b : Int)) = ((min (a + b) 401 : Nat) : Int) := by split <;> omega
set_option maxRecDepth 100000 in
set_option maxHeartbeats 6400000 in
theorem impl_countValues : ∀ (d : Nat), ∀ (xs : List Dt) (_ : WorldOK xs) (t : Ty) (_ : TyIn xs.length t) (_ : d ≤ 10) (w : World) (x : Value) (F : List Nat), Arr w (DtR w) xs x F → Under w.heap.size F →
    Calls Try.prog 65 #[x, .agg #[.int .i64 t.d, .int .i64 t.i], .int .i64 ((d : Nat) : Int)] w fun e w' => e = .returned (.int .i64 (cntU xs d t : Nat)) ∧ Below w.heap.size w w' := by
  intro d
  induction d with
  | zero =>
    intro xs hw t ht hd w x F hx hf
    clear hw ht hd hx hf
    go_enter Try.func65, Try.ntmps65
    go_wp2
    go_ret
    exact ⟨rfl, (Below.refl _ _).alloc (Nat.le_refl _) _⟩
  | succ d ih =>
    intro xs hw t ht hd w x F hx hf
    have IH := Lib.hid ih
    obtain ⟨A, cap, rfl, hc1, hc2⟩ := hx.form
    have hde : ((d + 1 : Nat) : Int) = (d : Int) + 1 := by omega
    have e0 : (((d : Int) + 1) == 0) = false := by rw [beq_eq_false_iff_ne]; omega
    rw [hde]
    clear ih hde
    rcases id ht with hti | ⟨q, r, rfl, hql, hrl⟩
    · have t0 : (t.d == -1) = true := by simp [hti]
      have HP := Lib.hid (cntU_int (xs := xs) (d := d) hti)
      clear hw ht hti hx hf hd
      go_enter Try.func65, Try.ntmps65
      go_wp2
      go_ret
      exact ⟨by rw [HP.out]; rfl, (Below.refl _ _).alloc (Nat.le_refl _) _⟩
    · have t0 : ((q : Int) == -1) = false := by rw [beq_eq_false_iff_ne]; omega
      have hdn : ¬ (⟨(q : Int), (r : Int)⟩ : Ty).d = -1 := by simp only; omega
      have hw1 : IntKind.i64.wrap ((d : Int) + 1 - 1) = (d : Int) := by rw [show (d : Int) + 1 - 1 = d by omega]; exact IntWalk.i64_in _ (by omega)
      have HDN := Lib.hid hdn
      have HW := Lib.hid hw
      have HT := Lib.hid ht

      have HX := Lib.hid hx
      have HF := Lib.hid hf
      clear hx hf
      clear hw ht hdn
      go_enter Try.func65, Try.ntmps65
      go_wp2_with fail
      obtain ⟨W2, hW2⟩ : ∃ W2, W2 = (w.alloc (.cells #[.int .i64 (q : Int), .int .i64 (r : Int)] 32)) := ⟨_, rfl⟩
      have hB0 : Below w.heap.size w W2 := by rw [hW2]; exact (Below.refl _ _).alloc (Nat.le_refl _) _
      have KT : Hid (Blk W2 w.heap.size 32 #[.int .i64 (q : Int), .int .i64 (r : Int)]) := by rw [hW2]; exact Blk.new w _ _
      rw [← hW2]
      clear hW2
      have y0 : W2.cell? ⟨w.heap.size, 0, none⟩ = some (.int .i64 (q : Int)) := (KT.out.cell 0).trans (by simp)
      have y1 : W2.cell? ⟨w.heap.size, 1, none⟩ = some (.int .i64 (r : Int)) := (KT.out.cell 1).trans (by simp)
      have ylt := KT.out.lt
      go_wp2_with fail
      refine (impl_ctorsOf xs (⟨(q : Int), (r : Int)⟩ : Ty) W2 _ F (ArrDt.below HX.out hB0 HF.out) (HF.out.mono hB0.size) HW.out HT.out.inWorld).mono ?_
      rintro e w3 ⟨v3, F3, rfl, hb3, ha3, -, hfs3⟩
      have hB3 := hB0.trans (hb3.mono hB0.size)
      have KT3 := Lib.hid (KT.out.same (hb3.block _ KT.out.lt))
      have HA3 := Lib.hid ha3
      have HU3 := Lib.hid hfs3.under
      obtain ⟨C3, cap3, rfl, hl1, hl2⟩ := ha3.form
      clear ha3 hfs3 hb3 KT y0 y1 ylt hB0
      go_wp2
      go_loopw [7, 22] (fun sv iv wr => ∃ i : Nat, i ≤ (ctorsL xs (⟨(q : Int), (r : Int)⟩ : Ty)).length ∧ iv = .int .i64 i ∧ sv = .int .i64 (cntTo xs d (⟨(q : Int), (r : Int)⟩ : Ty) i : Nat) ∧ Hid (Below w3.heap.size w3 wr)) (fun _ iv _ => (ctorsL xs (⟨(q : Int), (r : Int)⟩ : Ty)).length - (intOf iv).toNat)
      case atStart => exact ⟨0, Nat.zero_le _, rfl, by rw [cntTo_zero]; rfl, Below.refl _ _⟩
      case round =>
        obtain ⟨i, hi, rfl, rfl, HBI⟩ := hrel
        obtain ⟨wo, hwo⟩ : ∃ wo, wo = wr := ⟨_, rfl⟩
        rw [← hwo] at HBI ⊢
        clear hwo
        have hB := hB3.trans (HBI.out.mono hB3.size)
        have KTo := Lib.hid (KT3.out.same (HBI.out.block _ KT3.out.lt))
        have y0 : wo.cell? ⟨w.heap.size, 0, none⟩ = some (.int .i64 (q : Int)) := (KTo.out.cell 0).trans (by simp)
        have y1 : wo.cell? ⟨w.heap.size, 1, none⟩ = some (.int .i64 (r : Int)) := (KTo.out.cell 1).trans (by simp)
        have ylt := KTo.out.lt
        have hs401 := cntTo_le xs d (⟨(q : Int), (r : Int)⟩ : Ty) i
        by_cases hil : i < (ctorsL xs (⟨(q : Int), (r : Int)⟩ : Ty)).length
        · have g1 : (0 : Int) ≤ (i : Int) := by omega
          have g2 : (i : Int) < ((ctorsL xs (⟨(q : Int), (r : Int)⟩ : Ty)).length : Int) := by omega
          obtain ⟨b3, off3, rfl⟩ := HA3.out.ptr (by omega)
          obtain ⟨hb3l, c3⟩ := ArrNat.at HA3.out HU3.out HBI.out i hil
          obtain ⟨q', m, e1, hkm, hq', hm⟩ := mem_ctorsL HT.out.inWorld (List.getElem_mem hil)
          obtain rfl : q = q' := Int.ofNat.inj e1
          have hme : (ctorsL xs (⟨(q : Int), (r : Int)⟩ : Ty))[i] ∈ (ctorsL xs (⟨(q : Int), (r : Int)⟩ : Ty)) := List.getElem_mem hil
          rw [hkm] at c3 hme
          have hals := argsOf_get (i := (r : Int)) hql hm
          have hca := (HW.out.ctor hql hm).args
          have HST : Hid (∀ j, (argsL xs[q].ctors[m] (r : Int)).length = j → cntTo xs d (⟨(q : Int), (r : Int)⟩ : Ty) (i + 1) = min (cntTo xs d (⟨(q : Int), (r : Int)⟩ : Ty) i + cntArg xs d (argsL xs[q].ctors[m] (r : Int)) j) 401) := fun j hj => by
            have h := cntTo_succ xs d (⟨(q : Int), (r : Int)⟩ : Ty) i hil (j := j) (by rw [hkm, hals]; exact hj)
            rw [hkm, hals] at h
            exact h
          have HTI : Hid (∀ a ∈ argsL xs[q].ctors[m] (r : Int), TyIn xs.length a) := fun a ha => argsOf_in HW.out HT.out hme (by rw [hals]; exact ha)
          clear hkm e1 hme hals
          go_wp2_with fail
          refine (impl_argTypes xs q m (r : Int) hql hm wo _ F (ArrDt.below HX.out hB HF.out) (HF.out.mono hB.size) hca).mono ?_
          rintro e w6 ⟨v6, F6, rfl, hb6, ha6, -, hfs6⟩
          have HB36 : Hid (Below w3.heap.size w3 w6) := HBI.out.trans (hb6.mono HBI.out.size)
          have hB6 := hB.trans (hb6.mono hB.size)
          generalize hass : argsL xs[q].ctors[m] (r : Int) = ls at *
          clear hass hca
          obtain ⟨A6, cap6, rfl, hd3, hd4⟩ := ha6.form
          have HA6 := Lib.hid ha6
          have HU6 := Lib.hid hfs6.under
          clear ha6 hfs6 hb6 KTo y0 y1 ylt c3 hb3l HBI hB
          go_wp2
          go_loopw [10, 31] (fun nv jv wr => ∃ j : Nat, j ≤ ls.length ∧ jv = .int .i64 j ∧ nv = .int .i64 (cntArg xs d ls j : Nat) ∧ Below w6.heap.size w6 wr) (fun _ jv _ => ls.length - (intOf jv).toNat)
          case atStart => exact ⟨0, Nat.zero_le _, rfl, by rw [cntArg_zero]; rfl, Below.refl _ _⟩
          case round =>
            obtain ⟨j, hj, rfl, rfl, hBr⟩ := hrel
            have hn401 := cntArg_le xs d ls j
            have hBw := hB6.trans (hBr.mono hB6.size)
            by_cases hjl : j < ls.length
            · have g3 : (0 : Int) ≤ (j : Int) := by omega
              have g4 : (j : Int) < (ls.length : Int) := by omega
              obtain ⟨b6, off6, rfl⟩ := HA6.out.ptr (by omega)
              obtain ⟨hb6l, a0, a1⟩ := ArrTy.at HA6.out HU6.out hBr j hjl
              have hcs := cntArg_succ xs d ls j hjl
              have hc401 := cntU_le xs d ls[j]
              have HTJ := Lib.hid (HTI.out ls[j] (List.getElem_mem hjl))
              have hBx : Below w6.heap.size w6 (wr.alloc (.cells #[.int .i64 ls[j].d, .int .i64 ls[j].i] 32)) := hBr.alloc hBr.size _
              have hBz : Below w.heap.size w (wr.alloc (.cells #[.int .i64 ls[j].d, .int .i64 ls[j].i] 32)) := hB6.trans (hBx.mono hB6.size)
              go_wp2_with fail
              refine (IH.out xs HW.out ls[j] HTJ.out (by omega) _ _ F (ArrDt.below HX.out hBz HF.out) (HF.out.mono hBz.size)).mono ?_
              rintro e w8 ⟨rfl, hb8⟩
              have hB8 : Below w6.heap.size w6 w8 := hBx.trans (hb8.mono hBx.size)
              have HCS := Lib.hid hcs
              generalize cntU xs d ls[j] = cv at *
              generalize cntArg xs d ls j = nv at *
              have hmul : nv * cv ≤ 401 * 401 := Nat.mul_le_mul hn401 hc401
              have hw2 : IntKind.i64.wrap ((nv : Int) * (cv : Int)) = ((nv * cv : Nat) : Int) := by rw [← Int.natCast_mul]; exact IntWalk.i64_in _ (by omega)
              clear hcs hb8 hBx hBz a0 a1 hb6l
              go_wp2
              go_roundw
              case rel => exact ⟨j + 1, hjl, by go_num, by rw [HCS.out, ← min_mul], hB8⟩
              case measure => (simp [intOf] <;> omega)
            · have hjd : ls.length = j := by omega
              have hst := HST.out j hjd
              have HST2 := Lib.hid hst
              have hBI2 : Hid (Below w3.heap.size w3 wr) := HB36.out.trans (hBr.mono HB36.out.size)
              clear hst
              generalize cntTo xs d (⟨(q : Int), (r : Int)⟩ : Ty) i = sv at *
              generalize cntArg xs d ls j = nv at *
              go_wp2
              go_roundw
              case rel => exact ⟨i + 1, hil, by go_num, by rw [HST2.out, ← min_add], hBI2⟩
              case measure => (simp [intOf] <;> omega)
        · have HALL := Lib.hid (cntTo_all (xs := xs) (d := d) HDN.out (i := i) (Nat.le_of_not_lt hil))
          go_wp2
          go_ret
          exact ⟨ret_int (congrArg Int.ofNat HALL.out), hB⟩
end Go.Proofs.Ytilndhmegaccmaa
