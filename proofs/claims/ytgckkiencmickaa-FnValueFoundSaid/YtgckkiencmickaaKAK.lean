/-
  Lemmas and contracts of functions: All values of a type up to a depth, in plain Lean; how many there are; lists cut off. Conditions: none. The values of a type up to a depth: they are its values, all of them, in order, and those of less depth are among them. Conditions: the world is valid. Copies of values: the contract. Conditions: none. ValuesUpTo: what it gives. Conditions: none. How many values a type has up to a depth, as the program counts them. Conditions: the world is valid. slices.ContainsFunc over types, with the closure of values; slices.Clone over values. Conditions: the world is valid. impl.number. Conditions: none. The values of a type up to a depth, as the program lists them. Conditions: the world is valid, there are at most 400. A value of its own: the walk of ownValue. Conditions: no more than a million parts.
-/
import Derived.Test.YtgckkiencmickaaKAB
import Derived.Test.YtgckkiencmickaaKAH
import Derived.Test.YtgckkiencmickaaKAI
import Derived.Test.YtgckkiencmickaaKAC
import Derived.Deep.RegionWith
import Derived.Test.YtgckkiencmickaaKAA
import Derived.Test.YtgckkiencmickaaKAF
import Derived.Test.YtgckkiencmickaaKAG
import Derived.Lib.SliceRun
import Derived.Deep.RegionHeld3

set_option linter.unusedVariables false
set_option linter.unusedSimpArgs false

namespace Go.Proofs.Ytgckkiencmickaa
open Go.RowKit

def numV (n : Nat) : V := ⟨-1, (n : Int), []⟩
def numsL (k : Nat) : List V := (List.range k).map numV
theorem numsL_succ (k : Nat) : numsL (k + 1) = numsL k ++ [numV k] := by unfold numsL; rw [List.range_succ, List.map_append]; rfl
theorem numsL_len (k : Nat) : (numsL k).length = k := by unfold numsL; rw [List.length_map, List.length_range]
/-- v with each of kids behind its own -/
def growK (c : Int) (v : V) (kids : List V) : List V := kids.map fun k => ⟨c, 0, v.ks ++ [k]⟩
theorem growK_len (c : Int) (v : V) (kids : List V) : (growK c v kids).length = kids.length := List.length_map _
def growTo (c : Int) (list kids : List V) (p : Nat) : List V := (list.take p).flatMap fun v => growK c v kids
def growV (c : Int) (list kids : List V) : List V := list.flatMap fun v => growK c v kids
theorem growTo_zero (c : Int) (list kids : List V) : growTo c list kids 0 = [] := rfl
theorem growTo_all (c : Int) (list kids : List V) {p : Nat} (h : list.length ≤ p) : growTo c list kids p = growV c list kids := by unfold growTo growV; rw [List.take_of_length_le h]
theorem growTo_succ (c : Int) (list kids : List V) (p : Nat) (h : p < list.length) : growTo c list kids (p + 1) = growTo c list kids p ++ growK c list[p] kids := by
  unfold growTo
  rw [take_snoc' list p h, List.flatMap_append]
  simp
theorem growK_succ (c : Int) (v : V) (kids : List V) (q : Nat) (h : q < kids.length) : growK c v (kids.take (q + 1)) = growK c v (kids.take q) ++ [⟨c, 0, v.ks ++ [kids[q]]⟩] := by
  unfold growK
  rw [take_snoc' kids q h, List.map_append]
  rfl
theorem growV_len (c : Int) (list kids : List V) : (growV c list kids).length = list.length * kids.length := by
  unfold growV
  induction list with
  | nil => simp
  | cons v l ih => rw [List.flatMap_cons, List.length_append, ih, growK_len, List.length_cons, Nat.succ_mul]; omega
theorem growTo_len (c : Int) (list kids : List V) (p : Nat) (h : p ≤ list.length) : (growTo c list kids p).length = p * kids.length := by
  have := growV_len c (list.take p) kids
  rw [List.length_take, Nat.min_eq_left h] at this
  exact this
def growAll (c : Int) (ls : List (List V)) : List V := ls.foldl (growV c) [⟨c, 0, []⟩]
theorem growAll_snoc (c : Int) (ls : List (List V)) (l : List V) : growAll c (ls ++ [l]) = growV c (growAll c ls) l := by unfold growAll; rw [List.foldl_append]; rfl
def valsL (xs : List Dt) : Nat → Ty → List V
  | 0, _ => []
  | d + 1, t => if t.d = -1 then numsL 10 else (ctorsL xs t).flatMap fun c => growAll c ((argsOf xs t c).map (valsL xs d))
theorem valsL_zero (xs : List Dt) (t : Ty) : valsL xs 0 t = [] := rfl
theorem valsL_int {xs : List Dt} {d : Nat} {t : Ty} (h : t.d = -1) : valsL xs (d + 1) t = numsL 10 := by rw [valsL, if_pos h]
/-- the lists of the first j arguments, combined -/
def argTo (xs : List Dt) (d : Nat) (c : Int) (as' : List Ty) (j : Nat) : List V := growAll c ((as'.take j).map (valsL xs d))
theorem argTo_zero (xs : List Dt) (d : Nat) (c : Int) (as' : List Ty) : argTo xs d c as' 0 = [⟨c, 0, []⟩] := rfl
theorem argTo_succ (xs : List Dt) (d : Nat) (c : Int) (as' : List Ty) (j : Nat) (h : j < as'.length) : argTo xs d c as' (j + 1) = growV c (argTo xs d c as' j) (valsL xs d as'[j]) := by
  unfold argTo
  rw [take_snoc' as' j h, List.map_append, List.map_cons, List.map_nil, growAll_snoc]
def blockL (xs : List Dt) (d : Nat) (t : Ty) (c : Int) : List V := growAll c ((argsOf xs t c).map (valsL xs d))
theorem argTo_all (xs : List Dt) (d : Nat) (t : Ty) (c : Int) {j : Nat} (h : (argsOf xs t c).length ≤ j) : argTo xs d c (argsOf xs t c) j = blockL xs d t c := by unfold argTo blockL; rw [List.take_of_length_le h]
def valsTo (xs : List Dt) (d : Nat) (t : Ty) (i : Nat) : List V := ((ctorsL xs t).take i).flatMap (blockL xs d t)
theorem valsTo_zero (xs : List Dt) (d : Nat) (t : Ty) : valsTo xs d t 0 = [] := rfl
theorem valsTo_succ (xs : List Dt) (d : Nat) (t : Ty) (i : Nat) (h : i < (ctorsL xs t).length) : valsTo xs d t (i + 1) = valsTo xs d t i ++ blockL xs d t (ctorsL xs t)[i] := by
  unfold valsTo
  rw [take_snoc' _ i h, List.flatMap_append]
  simp
theorem valsTo_all {xs : List Dt} {d : Nat} {t : Ty} (h : ¬ t.d = -1) {i : Nat} (hi : (ctorsL xs t).length ≤ i) : valsTo xs d t i = valsL xs (d + 1) t := by
  unfold valsTo
  rw [List.take_of_length_le hi, valsL, if_neg h]
  rfl
theorem flatMap_take_len {α β : Type} (f : α → List β) (l : List α) (i : Nat) : ((l.take i).flatMap f).length ≤ (l.flatMap f).length := by
  conv => rhs; rw [← List.take_append_drop i l, List.flatMap_append, List.length_append]
  omega
theorem valsTo_len {xs : List Dt} {d : Nat} {t : Ty} (h : ¬ t.d = -1) (i : Nat) : (valsTo xs d t i).length ≤ (valsL xs (d + 1) t).length := by
  rw [← valsTo_all h (Nat.le_refl _)]
  unfold valsTo
  rw [List.take_length]
  exact flatMap_take_len _ _ _
theorem blockL_len {xs : List Dt} {d : Nat} {t : Ty} (h : ¬ t.d = -1) {i : Nat} (hi : i < (ctorsL xs t).length) : (valsTo xs d t i).length + (blockL xs d t (ctorsL xs t)[i]).length ≤ (valsL xs (d + 1) t).length := by
  have := valsTo_len (xs := xs) (d := d) h (i + 1)
  rw [valsTo_succ _ _ _ _ hi, List.length_append] at this
  exact this
theorem argTo_len_succ (xs : List Dt) (d : Nat) (c : Int) (as' : List Ty) (j : Nat) (h : j < as'.length) : (argTo xs d c as' (j + 1)).length = (argTo xs d c as' j).length * (valsL xs d as'[j]).length := by rw [argTo_succ _ _ _ _ _ h, growV_len]
/-- some argument has no value -/
def noneB (xs : List Dt) (d : Nat) (as' : List Ty) : Bool := as'.any fun a => (valsL xs d a).length == 0
theorem argTo_none {xs : List Dt} {d : Nat} {c : Int} {as' : List Ty} : ∀ {k j : Nat} (hk : k < as'.length), (valsL xs d as'[k]).length = 0 → k < j → j ≤ as'.length → argTo xs d c as' j = [] := by
  intro k j hk h0 hkj hj
  induction j with
  | zero => omega
  | succ j ih =>
    have hl := argTo_len_succ xs d c as' j (by omega)
    rcases Nat.lt_or_ge k j with h | h
    · rw [ih h (by omega)] at hl
      simp at hl
      exact hl
    · obtain rfl : k = j := by omega
      rw [h0, Nat.mul_zero] at hl
      exact List.length_eq_zero_iff.1 hl
theorem blockL_none {xs : List Dt} {d : Nat} {t : Ty} {c : Int} (h : noneB xs d (argsOf xs t c) = true) : blockL xs d t c = [] := by
  unfold noneB at h
  rw [List.any_eq_true] at h
  obtain ⟨a, ha, h⟩ := h
  obtain ⟨k, hk, rfl⟩ := List.getElem_of_mem ha
  rw [beq_iff_eq] at h
  rw [← argTo_all xs d t c (Nat.le_refl _)]
  exact argTo_none hk h hk (Nat.le_refl _)
theorem noneB_pos {xs : List Dt} {d : Nat} {as' : List Ty} (h : noneB xs d as' = false) {j : Nat} (hj : j < as'.length) : 0 < (valsL xs d as'[j]).length := by
  unfold noneB at h
  rw [List.any_eq_false] at h
  have := h as'[j] (List.getElem_mem hj)
  simp only [beq_iff_eq] at this
  omega
theorem argTo_mono {xs : List Dt} {d : Nat} {c : Int} {as' : List Ty} (h : noneB xs d as' = false) : ∀ (k j : Nat), j + k ≤ as'.length → (argTo xs d c as' j).length ≤ (argTo xs d c as' (j + k)).length := by
  intro k
  induction k with
  | zero => intro j _; exact Nat.le_refl _
  | succ k ih =>
    intro j hj
    have h1 := ih j (by omega)
    have h2 := argTo_len_succ xs d c as' (j + k) (by omega)
    have h3 := noneB_pos h (j := j + k) (by omega)
    rw [show j + (k + 1) = j + k + 1 by omega, h2]
    exact Nat.le_trans h1 (Nat.le_mul_of_pos_right _ h3)
theorem argTo_pos {xs : List Dt} {d : Nat} {c : Int} {as' : List Ty} (h : noneB xs d as' = false) (j : Nat) (hj : j ≤ as'.length) : 0 < (argTo xs d c as' j).length := by
  have := argTo_mono (c := c) h j 0 (by omega)
  rw [argTo_zero, Nat.zero_add] at this
  exact this
theorem argTo_le {xs : List Dt} {d : Nat} {t : Ty} {c : Int} (h : noneB xs d (argsOf xs t c) = false) (j : Nat) : (argTo xs d c (argsOf xs t c) j).length ≤ (blockL xs d t c).length := by
  rcases Nat.lt_or_ge j (argsOf xs t c).length with hj | hj
  · have := argTo_mono (c := c) h ((argsOf xs t c).length - j) j (by omega)
    rw [argTo_all xs d t c (show (argsOf xs t c).length ≤ j + ((argsOf xs t c).length - j) by omega)] at this
    exact this
  · rw [argTo_all xs d t c hj]; exact Nat.le_refl _
theorem kid_le {xs : List Dt} {d : Nat} {t : Ty} {c : Int} (h : noneB xs d (argsOf xs t c) = false) {j : Nat} (hj : j < (argsOf xs t c).length) : (valsL xs d (argsOf xs t c)[j]).length ≤ (blockL xs d t c).length := by
  have h1 := argTo_le (c := c) h (j + 1)
  rw [argTo_len_succ _ _ _ _ _ hj] at h1
  exact Nat.le_trans (Nat.le_mul_of_pos_left _ (argTo_pos h j (by omega))) h1
/-- what the combined values are made of -/
def Headed (c : Int) (j : Nat) (l : List V) : Prop := ∀ v ∈ l, v.c = c ∧ v.n = 0 ∧ v.ks.length = j
theorem growV_headed {c : Int} {j : Nat} {list kids : List V} (h : Headed c j list) : Headed c (j + 1) (growV c list kids) := fun v hv => by
  obtain ⟨u, hu, hv⟩ := List.mem_flatMap.1 hv
  obtain ⟨k, hk, rfl⟩ := List.mem_map.1 hv
  exact ⟨rfl, rfl, by have := (h u hu).2.2; simp [this]⟩
theorem argTo_headed (xs : List Dt) (d : Nat) (c : Int) (as' : List Ty) : ∀ j, j ≤ as'.length → Headed c j (argTo xs d c as' j) := by
  intro j
  induction j with
  | zero => intro _ v hv; rw [argTo_zero, List.mem_singleton] at hv; subst hv; exact ⟨rfl, rfl, rfl⟩
  | succ j ih => intro h; rw [argTo_succ _ _ _ _ _ (by omega)]; exact growV_headed (ih (by omega))

/-- a number, at most one more than the greatest length of a list -/
def capN (n : Nat) : Nat := min n 401
theorem capN_le (n : Nat) : capN n ≤ 401 := Nat.min_le_right _ _
theorem capN_mul (a b : Nat) : min (capN a * capN b) 401 = capN (a * b) := by
  unfold capN
  rcases Nat.lt_or_ge a 401 with ha | ha
  · rcases Nat.lt_or_ge b 401 with hb | hb
    · rw [Nat.min_eq_left (Nat.le_of_lt ha), Nat.min_eq_left (Nat.le_of_lt hb)]
    · rw [Nat.min_eq_left (Nat.le_of_lt ha), Nat.min_eq_right hb]
      rcases Nat.eq_zero_or_pos a with rfl | h0
      · simp
      · have h1 : 401 ≤ a * 401 := Nat.le_mul_of_pos_left _ h0
        have h2 : 401 ≤ a * b := Nat.le_trans hb (Nat.le_mul_of_pos_left _ h0)
        omega
  · rw [Nat.min_eq_right ha]
    rcases Nat.eq_zero_or_pos b with rfl | h0
    · simp
    · have h1 : 401 ≤ 401 * min b 401 := Nat.le_mul_of_pos_right _ (by omega)
      have h2 : 401 ≤ a * b := Nat.le_trans ha (Nat.le_mul_of_pos_right _ h0)
      omega
theorem capN_add (a b : Nat) : min (capN a + capN b) 401 = capN (a + b) := by unfold capN; omega
theorem capN_zero (a : Nat) : capN a = 0 ↔ a = 0 := by unfold capN; omega
theorem capN_big (a : Nat) : 400 < capN a ↔ 400 < a := by unfold capN; omega
def cntU (xs : List Dt) (d : Nat) (t : Ty) : Nat := capN (valsL xs d t).length
def cntArg (xs : List Dt) (d : Nat) (as' : List Ty) (j : Nat) : Nat := capN (argTo xs d 0 as' j).length
theorem argTo_len_any (xs : List Dt) (d : Nat) (c c' : Int) (as' : List Ty) : ∀ j, j ≤ as'.length → (argTo xs d c as' j).length = (argTo xs d c' as' j).length := by
  intro j
  induction j with
  | zero => intro _; rfl
  | succ j ih => intro h; rw [argTo_len_succ _ _ _ _ _ (by omega), argTo_len_succ _ _ _ _ _ (by omega), ih (by omega)]
theorem cntArg_zero (xs : List Dt) (d : Nat) (as' : List Ty) : cntArg xs d as' 0 = 1 := rfl
theorem cntArg_succ (xs : List Dt) (d : Nat) (as' : List Ty) (j : Nat) (h : j < as'.length) : cntArg xs d as' (j + 1) = min (cntArg xs d as' j * cntU xs d as'[j]) 401 := by
  unfold cntArg cntU
  rw [capN_mul, argTo_len_succ _ _ _ _ _ h]
theorem cntArg_le (xs : List Dt) (d : Nat) (as' : List Ty) (j : Nat) : cntArg xs d as' j ≤ 401 := capN_le _
def cntTo (xs : List Dt) (d : Nat) (t : Ty) (i : Nat) : Nat := capN (valsTo xs d t i).length
theorem cntTo_zero (xs : List Dt) (d : Nat) (t : Ty) : cntTo xs d t 0 = 0 := rfl
theorem cntTo_succ (xs : List Dt) (d : Nat) (t : Ty) (i : Nat) (h : i < (ctorsL xs t).length) {j : Nat} (hj : (argsOf xs t (ctorsL xs t)[i]).length = j) : cntTo xs d t (i + 1) = min (cntTo xs d t i + cntArg xs d (argsOf xs t (ctorsL xs t)[i]) j) 401 := by
  unfold cntTo cntArg
  rw [capN_add, valsTo_succ _ _ _ _ h, List.length_append, argTo_len_any xs d 0 (ctorsL xs t)[i] _ j (by omega), argTo_all xs d t _ (by omega)]
theorem cntTo_all {xs : List Dt} {d : Nat} {t : Ty} (h : ¬ t.d = -1) {i : Nat} (hi : (ctorsL xs t).length ≤ i) : cntTo xs d t i = cntU xs (d + 1) t := by unfold cntTo cntU; rw [valsTo_all h hi]
theorem cntTo_le (xs : List Dt) (d : Nat) (t : Ty) (i : Nat) : cntTo xs d t i ≤ 401 := capN_le _
theorem cntU_zero (xs : List Dt) (t : Ty) : cntU xs 0 t = 0 := rfl
theorem cntU_int {xs : List Dt} {d : Nat} {t : Ty} (h : t.d = -1) : cntU xs (d + 1) t = 10 := by unfold cntU; rw [valsL_int h, numsL_len]; rfl
theorem cntU_le (xs : List Dt) (d : Nat) (t : Ty) : cntU xs d t ≤ 401 := capN_le _
theorem cntU_none (xs : List Dt) (d : Nat) (t : Ty) : ((cntU xs d t : Int) == 0) = ((valsL xs d t).length == 0) := by
  rw [Bool.eq_iff_iff, beq_iff_eq, beq_iff_eq]
  have := capN_zero (valsL xs d t).length
  unfold cntU
  omega
theorem cntU_big (xs : List Dt) (d : Nat) (t : Ty) : 400 < cntU xs d t ↔ 400 < (valsL xs d t).length := capN_big _

/-- the first 401 -/
def cutV {α : Type} (l : List α) : List α := l.take 401
theorem cutV_len {α : Type} (l : List α) : (cutV l).length ≤ 401 := by unfold cutV; rw [List.length_take]; omega
theorem cutV_short {α : Type} {l : List α} (h : l.length ≤ 401) : cutV l = l := List.take_of_length_le h
theorem cutV_not {α : Type} {l : List α} (h : (cutV l).length ≤ 400) : cutV l = l := by
  unfold cutV at h ⊢
  rw [List.length_take] at h
  exact List.take_of_length_le (by omega)
theorem cutV_snoc {α : Type} {l : List α} (h : (cutV l).length ≤ 400) (x : α) : cutV l ++ [x] = cutV (l ++ [x]) := by
  have h1 := cutV_not h
  rw [h1] at h ⊢
  rw [cutV_short (by rw [List.length_append, List.length_singleton]; omega)]
theorem cutV_full {α : Type} {l : List α} (h : ¬ (cutV l).length ≤ 400) (m : List α) : cutV l = cutV (l ++ m) := by
  unfold cutV at h ⊢
  rw [List.length_take] at h
  rw [List.take_append_of_le_length (by omega)]
theorem take_app_left {α : Type} (n : Nat) (X Y : List α) : (X.take n ++ Y).take n = (X ++ Y).take n := by
  rw [List.take_append, List.take_append, List.take_take, Nat.min_self, List.length_take]
  rcases Nat.lt_or_ge n X.length with h | h
  · rw [Nat.min_eq_left (by omega), show n - n = 0 by omega, show n - X.length = 0 by omega]
  · rw [Nat.min_eq_right h]
theorem take_app_right {α : Type} (n : Nat) (X Y : List α) : (X ++ Y.take n).take n = (X ++ Y).take n := by
  rw [List.take_append, List.take_append, List.take_take, Nat.min_eq_left (by omega)]
theorem take_flatMap_each {α β : Type} (n : Nat) (g : α → List β) : ∀ A : List α, (A.flatMap fun o => (g o).take n).take n = (A.flatMap g).take n
  | [] => rfl
  | a :: A => by
    rw [List.flatMap_cons, List.flatMap_cons, take_app_left, ← take_app_right, take_flatMap_each n g A, take_app_right]
theorem take_flatMap_few {α β : Type} (g : α → List β) (hg : ∀ o, g o ≠ []) : ∀ (A : List α) (n m : Nat), n ≤ m → ((A.take m).flatMap g).take n = (A.flatMap g).take n
  | [], n, m, _ => by simp
  | a :: A, n, m, h => by
    cases m with
    | zero => obtain rfl : n = 0 := by omega
              simp
    | succ m =>
      have h1 : 0 < (g a).length := List.length_pos_iff.2 (hg a)
      rw [List.take_succ_cons, List.flatMap_cons, List.flatMap_cons, List.take_append, List.take_append]
      congr 1
      exact take_flatMap_few g hg A _ _ (by omega)
/-- lists, each with each of l behind it -/
def pairK (o : List V) (l : List V) : List (List V) := l.map fun k => o ++ [k]
def pairL (A : List (List V)) (l : List V) : List (List V) := A.flatMap fun o => pairK o l
def pairAll (ls : List (List V)) : List (List V) := ls.foldl pairL [[]]
theorem pair_cut (A : List (List V)) (l : List V) : cutV (pairL (cutV A) (cutV l)) = cutV (pairL A l) := by
  have h1 : cutV (pairL (cutV A) (cutV l)) = cutV (pairL (cutV A) l) := by
    have := take_flatMap_each 401 (fun o => pairK o l) (cutV A)
    unfold cutV pairL
    unfold cutV at this
    rw [← this]
    congr 2
    funext o
    unfold pairK
    rw [List.map_take]
  rw [h1]
  by_cases hl : l = []
  · subst hl
    have h0 : ∀ A : List (List V), pairL A [] = [] := fun A => by unfold pairL pairK; simp
    rw [h0, h0]
  · exact take_flatMap_few (fun o => pairK o l) (fun o e => hl (by unfold pairK at e; simpa using e)) A 401 401 (Nat.le_refl _)
theorem pairFold_cut : ∀ (ls : List (List V)) (A : List (List V)), cutV ((ls.map cutV).foldl pairL A) = cutV (ls.foldl pairL A) ∧ ∀ B, cutV A = cutV B → cutV (ls.foldl pairL A) = cutV (ls.foldl pairL B)
  | [], A => ⟨rfl, fun B h => h⟩
  | l :: ls, A => by
    have hcong : ∀ A B, cutV A = cutV B → cutV (pairL A l) = cutV (pairL B l) := fun A B h => by rw [← pair_cut A, h, pair_cut B]
    have hc2 : cutV (pairL A (cutV l)) = cutV (pairL A l) := by
      rw [← pair_cut A (cutV l), ← pair_cut A l]
      congr 2
      unfold cutV
      rw [List.take_take]
      rfl
    refine ⟨?_, fun B h => ?_⟩
    · rw [List.map_cons, List.foldl_cons, List.foldl_cons, (pairFold_cut ls _).1]
      exact (pairFold_cut ls _).2 _ hc2
    · rw [List.foldl_cons, List.foldl_cons]
      exact (pairFold_cut ls _).2 _ (hcong A B h)
theorem pairAll_cut (ls : List (List V)) : cutV (pairAll (ls.map cutV)) = cutV (pairAll ls) := (pairFold_cut ls [[]]).1
def headV (c : Int) (ks : List V) : V := ⟨c, 0, ks⟩
theorem growV_pair (c : Int) (A : List (List V)) (l : List V) : growV c (A.map (headV c)) l = (pairL A l).map (headV c) := by
  unfold growV pairL
  rw [List.map_flatMap, List.flatMap_map]
  congr 1
  funext o
  unfold growK pairK headV
  rw [List.map_map]
  rfl
theorem growAll_pairs (c : Int) (ls : List (List V)) : growAll c ls = (pairAll ls).map (headV c) := by
  have h : ∀ (ls : List (List V)) (A : List (List V)), ls.foldl (growV c) (A.map (headV c)) = (ls.foldl pairL A).map (headV c) := by
    intro ls
    induction ls with
    | nil => intro A; rfl
    | cons l ls ih => intro A; rw [List.foldl_cons, List.foldl_cons, growV_pair, ih]
  exact h ls [[]]
end Go.Proofs.Ytgckkiencmickaa

namespace Go.Proofs.Ytgckkiencmickaa
open Go.RowKit

def InAll : List V → List (List V) → Prop
  | [], [] => True
  | k :: ks, l :: ls => k ∈ l ∧ InAll ks ls
  | _, _ => False
theorem mem_pairFold : ∀ (ls : List (List V)) (A : List (List V)) (ks : List V), ks ∈ ls.foldl pairL A ↔ ∃ o ∈ A, ∃ m, ks = o ++ m ∧ InAll m ls
  | [], A, ks => by
    rw [List.foldl_nil]
    constructor
    · intro h; exact ⟨ks, h, [], by simp, trivial⟩
    · rintro ⟨o, ho, m, rfl, hm⟩
      cases m with
      | nil => simpa using ho
      | cons k m => exact hm.elim
  | l :: ls, A, ks => by
    rw [List.foldl_cons, mem_pairFold ls]
    constructor
    · rintro ⟨o', ho', m, rfl, hm⟩
      obtain ⟨o, ho, h⟩ := List.mem_flatMap.1 ho'
      obtain ⟨k, hk, rfl⟩ := List.mem_map.1 h
      exact ⟨o, ho, k :: m, by simp, hk, hm⟩
    · rintro ⟨o, ho, m, rfl, hm⟩
      cases m with
      | nil => exact hm.elim
      | cons k m => exact ⟨o ++ [k], List.mem_flatMap.2 ⟨o, ho, List.mem_map.2 ⟨k, hm.1, rfl⟩⟩, m, by simp, hm.2⟩
theorem mem_pairAll (ls : List (List V)) (ks : List V) : ks ∈ pairAll ls ↔ InAll ks ls := by
  unfold pairAll
  rw [mem_pairFold]
  constructor
  · rintro ⟨o, ho, m, rfl, hm⟩
    rw [List.mem_singleton] at ho
    subst ho
    exact hm
  · intro h; exact ⟨[], by simp, ks, rfl, h⟩
theorem inAll_fits {xs : List Dt} {d : Nat} (ih : ∀ t v, v ∈ valsL xs d t ↔ fitsV xs d t v = true) : ∀ (as' : List Ty) (ks : List V), InAll ks (as'.map (valsL xs d)) ↔ (ks.length = as'.length ∧ zipAll (fitsV xs d) as' ks = true)
  | [], [] => by simp [InAll, zipAll]
  | [], k :: ks => by simp [InAll]
  | a :: as', [] => by simp [InAll]
  | a :: as', k :: ks => by
    simp only [List.map_cons, InAll, List.length_cons, zipAll, Bool.and_eq_true, inAll_fits ih as' ks, ih a k]
    constructor
    · rintro ⟨h1, h2, h3⟩; exact ⟨by omega, h1, h3⟩
    · rintro ⟨h1, h2, h3⟩; exact ⟨h2, by omega, h3⟩
theorem mem_nums (v : V) : v ∈ numsL 10 ↔ isNum v = true := by
  unfold numsL isNum
  rw [List.mem_map, Bool.and_eq_true, Bool.and_eq_true, withinB_iff, beq_iff_eq, decide_eq_true_iff]
  obtain ⟨c, n, ks⟩ := v
  simp only [numV]
  constructor
  · rintro ⟨k, hk, e⟩
    injection e with e1 e2 e3
    have hk : k < 10 := by simpa using hk
    subst e1 e2 e3
    exact ⟨rfl, by omega, rfl⟩
  · rintro ⟨rfl, h, h3⟩
    obtain rfl := List.length_eq_zero_iff.1 h3
    exact ⟨n.toNat, by simp; omega, by congr; omega⟩
/-- the values of a type up to a depth are those that fit -/
theorem mem_vals (xs : List Dt) : ∀ (d : Nat) (t : Ty) (v : V), v ∈ valsL xs d t ↔ fitsV xs d t v = true
  | 0, t, v => by rw [valsL, fitsV]; simp
  | d + 1, t, v => by
    by_cases h : t.d = -1
    · rw [valsL_int h, fitsV_int h]; exact mem_nums v
    · rw [valsL, if_neg h, fitsV_data h, List.mem_flatMap, Bool.and_eq_true, Bool.and_eq_true, Bool.and_eq_true, hasB_iff, beq_iff_eq, decide_eq_true_iff, ← inAll_fits (mem_vals xs d)]
      constructor
      · rintro ⟨c, hc, hv⟩
        rw [growAll_pairs, List.mem_map] at hv
        obtain ⟨ks, hk, rfl⟩ := hv
        rw [mem_pairAll] at hk
        exact ⟨rfl, hc, hk⟩
      · rintro ⟨h1, h2, h3⟩
        refine ⟨v.c, h2, ?_⟩
        rw [growAll_pairs, List.mem_map]
        refine ⟨v.ks, (mem_pairAll _ _).2 h3, ?_⟩
        obtain ⟨c, n, ks⟩ := v
        simp only at h1
        subst h1
        rfl
theorem zipAll_of {f g : Ty → V → Bool} : ∀ {ls : List Ty} {ks : List V}, (∀ a ∈ ls, ∀ k ∈ ks, f a k = true → g a k = true) → zipAll f ls ks = true → zipAll g ls ks = true
  | [], ks, _, _ => by cases ks <;> rfl
  | a :: ls, [], _, _ => rfl
  | a :: ls, k :: ks, h, hz => by
    rw [zipAll, Bool.and_eq_true] at hz ⊢
    exact ⟨h a (by simp) k (by simp) hz.1, zipAll_of (fun a ha k hk => h a (by simp [ha]) k (by simp [hk])) hz.2⟩
theorem depths_mem {l : List V} {k : V} (h : k ∈ l) : k.depth ≤ V.depths l := by
  induction l with
  | nil => cases h
  | cons a l ih =>
    simp only [V.depths]
    rcases List.mem_cons.1 h with rfl | h
    · omega
    · have := ih h; omega
theorem depth_ks (v : V) : v.depth = V.depths v.ks + 1 := by obtain ⟨c, n, ks⟩ := v; rfl
/-- what fits at some depth, fits at every depth that holds it -/
theorem fitsV_at (xs : List Dt) : ∀ (d : Nat) (t : Ty) (v : V), fitsV xs d t v = true → ∀ e, v.depth ≤ e → fitsV xs e t v = true
  | 0, t, v, h, e, _ => by rw [fitsV] at h; cases h
  | d + 1, t, v, h, e, he => by
    rw [depth_ks] at he
    obtain ⟨e, rfl⟩ : ∃ k, e = k + 1 := ⟨e - 1, by omega⟩
    by_cases ht : t.d = -1
    · rw [fitsV_int ht] at h ⊢; exact h
    · rw [fitsV_data ht] at h ⊢
      simp only [Bool.and_eq_true] at h ⊢
      obtain ⟨h1, h2, h3, h4⟩ := h
      refine ⟨h1, h2, h3, zipAll_of (fun a ha k hk hf => fitsV_at xs d a k hf e ?_) h4⟩
      have := depths_mem hk
      omega
theorem depths_le {l : List V} {d : Nat} (h : ∀ k ∈ l, k.depth ≤ d) : V.depths l ≤ d := by
  induction l with
  | nil => simp [V.depths]
  | cons a l ih =>
    simp only [V.depths]
    have h1 := h a (by simp)
    have h2 := ih fun k hk => h k (by simp [hk])
    omega
theorem zipAll_each {f : Ty → V → Bool} {p : V → Prop} : ∀ {ls : List Ty} {ks : List V}, ks.length = ls.length → (∀ a ∈ ls, ∀ k, f a k = true → p k) → zipAll f ls ks = true → ∀ k ∈ ks, p k
  | _, [], _, _, _ => fun k hk => by cases hk
  | [], k :: ks, h, _, _ => by simp at h
  | a :: ls, k :: ks, hl, h, hz => fun k' hk' => by
    rw [zipAll, Bool.and_eq_true] at hz
    rcases List.mem_cons.1 hk' with rfl | hk'
    · exact h a (by simp) _ hz.1
    · exact zipAll_each (by simpa using hl) (fun a ha => h a (by simp [ha])) hz.2 k' hk'
theorem fits_depth (xs : List Dt) : ∀ (d : Nat) (t : Ty) (v : V), fitsV xs d t v = true → v.depth ≤ d
  | 0, t, v, h => by rw [fitsV] at h; cases h
  | d + 1, t, v, h => by
    rw [depth_ks]
    by_cases ht : t.d = -1
    · rw [fitsV_int ht] at h
      unfold isNum at h
      simp only [Bool.and_eq_true, decide_eq_true_iff] at h
      rw [List.length_eq_zero_iff.1 h.2.2]
      simp [V.depths]
    · rw [fitsV_data ht] at h
      simp only [Bool.and_eq_true, decide_eq_true_iff] at h
      obtain ⟨h1, h2, h3, h4⟩ := h
      have := depths_le (zipAll_each (p := fun k => k.depth ≤ d) h3 (fun a _ k hk => fits_depth xs d a k hk) h4)
      omega
def nodesTo : Nat → Nat
  | 0 => 0
  | d + 1 => 1 + 3 * nodesTo d
theorem sizes_le {b : Nat} : ∀ {l : List V}, (∀ k ∈ l, nodes k ≤ b) → V.sizes l ≤ l.length * b
  | [], _ => by simp [V.sizes]
  | k :: l, h => by
    have h1 := h k (by simp)
    have h2 := sizes_le fun x hx => h x (List.mem_cons_of_mem _ hx)
    simp only [V.sizes, List.length_cons, Nat.succ_mul]
    unfold nodes at h1
    omega
theorem fits_nodes {xs : List Dt} (hw : WorldOK xs) : ∀ (d : Nat) (t : Ty) (_ : TyIn xs.length t) (v : V), fitsV xs d t v = true → nodes v ≤ nodesTo d
  | 0, t, _, v, h => by rw [fitsV] at h; cases h
  | d + 1, t, ht', v, h => by
    rw [nodes_ks, nodesTo]
    by_cases ht : t.d = -1
    · rw [fitsV_int ht] at h
      unfold isNum at h
      simp only [Bool.and_eq_true, decide_eq_true_iff] at h
      rw [List.length_eq_zero_iff.1 h.2.2]
      simp [V.sizes]
    · rw [fitsV_data ht] at h
      simp only [Bool.and_eq_true, decide_eq_true_iff] at h
      obtain ⟨h1, h2, h3, h4⟩ := h
      rw [hasB_iff] at h2
      have h5 := sizes_le (zipAll_each (p := fun k => nodes k ≤ nodesTo d) h3 (fun a ha k hk => fits_nodes hw d a (argsOf_in hw ht' h2 ha) k hk) h4)
      have h6 := argsOf_len3 hw ht' h2
      have h7 : v.ks.length * nodesTo d ≤ 3 * nodesTo d := Nat.mul_le_mul_right _ (by omega)
      omega
/-- values up to depth 4 are valid -/
theorem vals_ok {xs : List Dt} (hw : WorldOK xs) {d : Nat} (hd : d ≤ 4) {t : Ty} (ht : TyIn xs.length t) {v : V} (h : v ∈ valsL xs d t) : valueOkB xs t v = true := by
  have h1 := (mem_vals xs d t v).1 h
  have h2 := fits_depth xs d t v h1
  have h3 := fitsV_at xs d t v h1 4 (by omega)
  have h4 := fits_nodes hw 4 t ht v h3
  unfold valueOkB
  rw [fitsV_at xs d t v h1 10 (by omega), Bool.true_and, decide_eq_true_iff]
  have : nodesTo 4 = 40 := rfl
  omega
theorem vals_small {xs : List Dt} (hw : WorldOK xs) {d : Nat} (hd : d ≤ 4) {t : Ty} (ht : TyIn xs.length t) {v : V} (h : v ∈ valsL xs d t) : nodes v ≤ 60 ∧ v.depth ≤ d := by
  have h1 := (mem_vals xs d t v).1 h
  have h2 := fits_depth xs d t v h1
  have h3 := fitsV_at xs d t v h1 4 (by omega)
  have h4 := fits_nodes hw 4 t ht v h3
  have : nodesTo 4 = 40 := rfl
  exact ⟨by omega, h2⟩

/-- order -/
def Asc (l : List V) : Prop := l.Pairwise fun a b => V.cmp a b = -1
theorem cmps_app : ∀ (a b x y : List V), a.length = b.length → V.cmps (a ++ x) (b ++ y) = if V.cmps a b = 0 then V.cmps x y else V.cmps a b
  | [], [], x, y, _ => by simp [V.cmps]
  | [], _ :: _, _, _, h => by simp at h
  | _ :: _, [], _, _, h => by simp at h
  | p :: a, q :: b, x, y, h => by
    have := cmps_app a b x y (by simpa using h)
    simp only [List.cons_append, V.cmps]
    split
    · exact this
    · rename_i h1; simp [h1]
theorem cmps_refl_of (ks : List V) (h : ∀ k ∈ ks, V.cmp k k = 0) : V.cmps ks ks = 0 := by
  induction ks with
  | nil => simp [V.cmps]
  | cons k ks ih => simp only [V.cmps]; rw [if_pos (h k (by simp)), ih fun x hx => h x (by simp [hx])]
theorem cmp_refl : ∀ v : V, V.cmp v v = 0 := V.ind fun c n ks ih => by
  simp only [V.cmp, if_true]
  exact cmps_refl_of ks ih
theorem cmps_refl (ks : List V) : V.cmps ks ks = 0 := cmps_refl_of ks fun k _ => cmp_refl k
theorem pairL_asc {j : Nat} {A : List (List V)} (hA : A.Pairwise fun a b => V.cmps a b = -1) (hj : ∀ o ∈ A, o.length = j) {l : List V} (hl : Asc l) : (pairL A l).Pairwise (fun a b => V.cmps a b = -1) ∧ ∀ o ∈ pairL A l, o.length = j + 1 := by
  constructor
  · unfold pairL
    rw [List.pairwise_flatMap]
    constructor
    · intro o ho
      unfold pairK
      rw [List.pairwise_map]
      refine List.Pairwise.imp (fun h => ?_) hl
      rw [cmps_app _ _ _ _ rfl, if_pos (cmps_refl o)]
      simp only [V.cmps]
      rw [if_neg (by omega)]
      exact h
    · refine List.Pairwise.imp_of_mem (fun {o o'} ho ho' h x hx y hy => ?_) hA
      obtain ⟨k, hk, rfl⟩ := List.mem_map.1 hx
      obtain ⟨k', hk', rfl⟩ := List.mem_map.1 hy
      rw [cmps_app _ _ _ _ ((hj o ho).trans (hj o' ho').symm), if_neg (by omega)]
      exact h
  · intro o ho
    obtain ⟨o', h1, h2⟩ := List.mem_flatMap.1 ho
    obtain ⟨k, _, rfl⟩ := List.mem_map.1 h2
    rw [List.length_append, hj o' h1]
    rfl
theorem pairFold_asc : ∀ (ls : List (List V)) (_ : ∀ l ∈ ls, Asc l) (j : Nat) (A : List (List V)), (A.Pairwise fun a b => V.cmps a b = -1) → (∀ o ∈ A, o.length = j) → (ls.foldl pairL A).Pairwise fun a b => V.cmps a b = -1
  | [], _, _, A, h, _ => h
  | l :: ls, hl, j, A, h, hj => by
    rw [List.foldl_cons]
    have := pairL_asc h hj (hl l (by simp))
    exact pairFold_asc ls (fun x hx => hl x (by simp [hx])) (j + 1) _ this.1 this.2
theorem growAll_asc {c : Int} {ls : List (List V)} (h : ∀ l ∈ ls, Asc l) : Asc (growAll c ls) := by
  unfold Asc
  rw [growAll_pairs, List.pairwise_map]
  refine List.Pairwise.imp (fun h => ?_) (pairFold_asc ls h 0 [[]] (by simp) (by simp))
  simp only [headV, V.cmp, if_true]
  exact h
theorem growAll_c {c : Int} {ls : List (List V)} {v : V} (h : v ∈ growAll c ls) : v.c = c := by
  rw [growAll_pairs, List.mem_map] at h
  obtain ⟨ks, _, rfl⟩ := h
  rfl
theorem asc_pairwise {l : List Int} (h : ∀ a (ha : a + 1 < l.length), l[a] < l[a + 1]) : l.Pairwise (· < ·) := by
  rw [List.pairwise_iff_getElem]
  intro i j hi hj hij
  have : ∀ k (hk : i + k + 1 < l.length), l[i] < l[i + k + 1] := by
    intro k
    induction k with
    | zero => intro hk; exact h i hk
    | succ k ih =>
      intro hk
      have h1 := ih (by omega)
      have h2 := h (i + k + 1) hk
      exact Int.lt_trans h1 h2
  have h2 := this (j - i - 1) (by omega)
  simp only [show i + (j - i - 1) + 1 = j by omega] at h2
  exact h2
theorem nums_asc (n : Nat) : Asc (numsL n) := by
  unfold Asc numsL
  rw [List.pairwise_map]
  refine List.Pairwise.imp (fun {a b} h => ?_) List.pairwise_lt_range
  have h : a < b := h
  simp only [numV, V.cmp, if_true]
  rw [if_neg (by omega), lessI_lt (by omega)]
theorem vals_asc {xs : List Dt} (hw : WorldOK xs) : ∀ (d : Nat) (t : Ty), TyIn xs.length t → Asc (valsL xs d t)
  | 0, t, _ => by rw [valsL]; exact List.Pairwise.nil
  | d + 1, t, ht' => by
    by_cases ht : t.d = -1
    · rw [valsL_int ht]; exact nums_asc 10
    · rw [valsL, if_neg ht]
      unfold Asc
      rw [List.pairwise_flatMap]
      constructor
      · intro c hc
        exact growAll_asc fun l hl => by
          obtain ⟨a, ha, rfl⟩ := List.mem_map.1 hl
          exact vals_asc hw d a (argsOf_in hw ht' hc ha)
      · refine List.Pairwise.imp (fun {c c'} h x hx y hy => ?_) (asc_pairwise (ctorsL_sorted ht'.inWorld))
        have h1 := growAll_c hx
        have h2 := growAll_c hy
        obtain ⟨c1, n1, k1⟩ := x
        obtain ⟨c2, n2, k2⟩ := y
        simp only at h1 h2
        subst h1 h2
        simp only [V.cmp]
        rw [if_neg (by omega), lessI_lt h]
theorem vals_step {xs : List Dt} (hw : WorldOK xs) {d : Nat} {t : Ty} (ht : TyIn xs.length t) (i : Nat) (h : i + 1 < (valsL xs d t).length) : V.cmp (valsL xs d t)[i] (valsL xs d t)[i + 1] = -1 :=
  List.pairwise_iff_getElem.1 (vals_asc hw d t ht) i (i + 1) (by omega) h (by omega)

/-- less depth, fewer values -/
theorem sub_flatMap {α β : Type} {f g : α → List β} : ∀ (l : List α), (∀ a ∈ l, (f a).Sublist (g a)) → (l.flatMap f).Sublist (l.flatMap g)
  | [], _ => List.Sublist.refl _
  | a :: l, h => by
    rw [List.flatMap_cons, List.flatMap_cons]
    exact List.Sublist.append (h a (by simp)) (sub_flatMap l fun x hx => h x (by simp [hx]))
theorem flatMap_sub {α β : Type} (f : α → List β) {A B : List α} (h : A.Sublist B) : (A.flatMap f).Sublist (B.flatMap f) := by
  induction h with
  | slnil => exact List.Sublist.refl _
  | cons a _ ih => rw [List.flatMap_cons]; exact ih.trans (List.sublist_append_right _ _)
  | cons_cons a _ ih => rw [List.flatMap_cons, List.flatMap_cons]; exact List.Sublist.append (List.Sublist.refl _) ih
theorem pairL_sub {A B : List (List V)} {l m : List V} (h : A.Sublist B) (h2 : l.Sublist m) : (pairL A l).Sublist (pairL B m) :=
  (flatMap_sub _ h).trans (sub_flatMap B fun o _ => by unfold pairK; exact h2.map _)
theorem pairFold_sub {α : Type} {f g : α → List V} (h : ∀ a, (f a).Sublist (g a)) : ∀ (ls : List α) {A B : List (List V)}, A.Sublist B → ((ls.map f).foldl pairL A).Sublist ((ls.map g).foldl pairL B)
  | [], _, _, hA => hA
  | a :: ls, _, _, hA => by
    rw [List.map_cons, List.map_cons, List.foldl_cons, List.foldl_cons]
    exact pairFold_sub h ls (pairL_sub hA (h a))
theorem vals_sub (xs : List Dt) : ∀ (d : Nat) (t : Ty), (valsL xs d t).Sublist (valsL xs (d + 1) t)
  | 0, t => by rw [valsL]; exact List.nil_sublist _
  | d + 1, t => by
    by_cases ht : t.d = -1
    · rw [valsL_int ht, valsL_int ht]; exact List.Sublist.refl _
    · rw [valsL, if_neg ht, valsL, if_neg ht]
      refine sub_flatMap _ fun c _ => ?_
      rw [growAll_pairs, growAll_pairs]
      exact (pairFold_sub (vals_sub xs d) _ (List.Sublist.refl _)).map _
/-- a place in `less` after a place in `list` -/
theorem sub_hit {α : Type} {l m : List α} {k i : Nat} (h : (l.drop k).Sublist (m.drop i)) (hk : k < l.length) (hi : i < m.length) (e : m[i] = l[k]) : (l.drop (k + 1)).Sublist (m.drop (i + 1)) := by
  rw [List.drop_eq_getElem_cons hk, List.drop_eq_getElem_cons hi, e] at h
  exact List.cons_sublist_cons.1 h
theorem sub_skip {α : Type} {a b : α} {l m : List α} (h : (a :: l).Sublist (b :: m)) (e : ¬ b = a) : (a :: l).Sublist m := by
  cases h with
  | cons _ h => exact h
  | cons_cons _ h => exact absurd rfl e
theorem sub_miss {α : Type} {l m : List α} {k i : Nat} (h : (l.drop k).Sublist (m.drop i)) (hk : k < l.length) (hi : i < m.length) (e : ¬ m[i] = l[k]) : (l.drop k).Sublist (m.drop (i + 1)) := by
  rw [List.drop_eq_getElem_cons hk, List.drop_eq_getElem_cons hi] at h
  rw [List.drop_eq_getElem_cons hk]
  exact sub_skip h e
theorem sub_end {α : Type} {l m : List α} {k i : Nat} (h : (l.drop k).Sublist (m.drop i)) (hi : m.length ≤ i) : l.length ≤ k := by
  rw [List.drop_of_length_le hi] at h
  have := h.length_le
  rw [List.length_drop, List.length_nil] at this
  omega
end Go.Proofs.Ytgckkiencmickaa

namespace Go.Proofs.Ytgckkiencmickaa
open Go.RowKit

/-- the first i parts -/
def kidTo (ks : List V) (i : Nat) : List V := ks.take i
theorem kidTo_len (ks : List V) (i : Nat) : (kidTo ks i).length ≤ i := by unfold kidTo; rw [List.length_take]; omega
theorem kidTo_succ (ks : List V) (i : Nat) (h : i < ks.length) : kidTo ks (i + 1) = kidTo ks i ++ [ks[i]] := take_snoc' ks i h
theorem kidTo_all (ks : List V) {i : Nat} (h : ks.length ≤ i) : kidTo ks i = ks := List.take_of_length_le h
theorem V.sizes_mem2 (l : List V) (k : Nat) (h : k < l.length) : l[k].size ≤ V.sizes l := by
  have := V.size_lt l k h
  omega
def CopyV (fn : FuncId) (v : V) : Prop := ∀ (w : World) (cs : List Value) (G : List Nat), VR w v cs G → Under w.heap.size G → v.size ≤ 1048576 →
  Calls Try.prog fn #[.agg cs.toArray] w (MadeVt v w)
end Go.Proofs.Ytgckkiencmickaa

namespace Go.Proofs.Ytgckkiencmickaa
open Go.RowKit

/-- the values up to a depth are listed: not too many, the depth in range, the type valid -/
def uptoB (xs : List Dt) (t : Ty) (dp : Int) : Bool := typeValidB xs t && (withinB dp 0 4 && decide ((valsL xs dp.toNat t).length ≤ 400))
def uptoV (xs : List Dt) (t : Ty) (dp : Int) : List V := if uptoB xs t dp = true then valsL xs dp.toNat t else []
theorem uptoV_no {xs : List Dt} {t : Ty} {dp : Int} (h : uptoB xs t dp = false) : uptoV xs t dp = [] := if_neg (by simp [h])
theorem uptoV_yes {xs : List Dt} {t : Ty} {dp : Int} (h : uptoB xs t dp = true) : uptoV xs t dp = valsL xs dp.toNat t := if_pos h
theorem upto_split {xs : List Dt} {t : Ty} {dp : Int} (h : uptoB xs t dp = true) : WorldOK xs ∧ TyIn xs.length t ∧ (∃ n : Nat, dp = (n : Int) ∧ n ≤ 4) ∧ (valsL xs dp.toNat t).length ≤ 400 := by
  unfold uptoB at h
  simp only [Bool.and_eq_true, decide_eq_true_iff, withinB_iff] at h
  obtain ⟨h1, h2, h3⟩ := h
  obtain ⟨hw, ht⟩ := typeValid_split h1
  exact ⟨hw, typeOkB_tyIn ht, ⟨dp.toNat, by omega, by omega⟩, h3⟩
theorem uptoV_len (xs : List Dt) (t : Ty) (dp : Int) : (uptoV xs t dp).length ≤ 400 := by
  cases h : uptoB xs t dp with
  | false => rw [uptoV_no h]; simp
  | true => rw [uptoV_yes h]; exact (upto_split h).2.2.2
theorem uptoV_small {xs : List Dt} {t : Ty} {dp : Int} {v : V} (h : v ∈ uptoV xs t dp) : nodes v ≤ 60 := by
  cases hb : uptoB xs t dp with
  | false => rw [uptoV_no hb] at h; cases h
  | true =>
    rw [uptoV_yes hb] at h
    obtain ⟨hw, ht, ⟨n, hn, h4⟩, -⟩ := upto_split hb
    exact (vals_small hw (by omega) ht h).1
/-- a list of values of the call's own, and a Boolean -/
def MadeVals2 (vs : List V) (b : Bool) (w : World) (e : Ending) (w' : World) : Prop := ∃ v F, e = .returned (.tuple #[v, .bool b]) ∧ Below w.heap.size w w' ∧ Arr w' (VR w') vs v F ∧ Free w' F ∧ Fresh w w' F
theorem upto_rw {P : Program} {f : FuncId} {as' : Array Value} {w : World} {vs : List V} {b b' : Bool} (h : b = b') (c : Calls P f as' w (MadeVals2 vs b w)) : Calls P f as' w (MadeVals2 vs b' w) := h ▸ c
theorem push_free {w w1 w2 : World} {v : Value} {F G : List Nat} {o : Obj} (hF : Free w F) (hFu : Under w.heap.size F) (hb : Below w.heap.size w w1) (hG : Free w1 G) (hGf : ∀ b ∈ G, w.heap.size ≤ b ∧ b < w1.heap.size)
    (hg : (w1.alloc o).grownBy w2 v.ownBlock) (hv : ∀ g ∈ rowOf v, g ∉ F) (hvl : ∀ g ∈ rowOf v, g < w.heap.size) : Free w2 (F ++ G) := by
  have h1 : Under (w1.alloc o).heap.size (F ++ G) := fun b hb' => by
    rw [World.size_alloc]
    rcases List.mem_append.1 hb' with h | h
    · have := hFu b h; have := hb.size; omega
    · have := (hGf b h).2; omega
  have hkF : Kept F w (w1.alloc o) := fun b h => (Below.heap_alloc _ _ _ (Nat.lt_of_lt_of_le (hFu b h) hb.size)).trans (hb.block b (hFu b h))
  have hkG : Kept G w1 (w1.alloc o) := fun b h => Below.heap_alloc _ _ _ (hGf b h).2
  have h2 : Free (w1.alloc o) (F ++ G) := by
    refine ⟨List.nodup_append.2 ⟨hF.1, hG.1, fun a ha c hc hac => ?_⟩, fun b hb' i => ?_⟩
    · subst hac
      exact Nat.lt_irrefl _ (Nat.lt_of_lt_of_le (hFu _ ha) (hGf _ hc).1)
    · rcases List.mem_append.1 hb' with h | h
      · exact (hF.kept hkF).2 b h i
      · exact (hG.kept hkG).2 b h i
  exact h2.kept (grown_kept hg h1 fun g hg hgF => by
    rcases List.mem_append.1 hgF with h | h
    · exact hv g hg h
    · exact Nat.lt_irrefl _ (Nat.lt_of_lt_of_le (hvl g hg) (hGf g h).1))
end Go.Proofs.Ytgckkiencmickaa

namespace Go.Proofs.Ytgckkiencmickaa
open Go.RowKit

theorem min_mul (a b : Nat) : (if (401 : Int) < (a : Int) * (b : Int) then (401 : Int) else (a : Int) * (b : Int)) = ((min (a * b) 401 : Nat) : Int) := by
  rw [← Int.natCast_mul]
  split <;> omega
theorem min_add (a b : Nat) : (if (401 : Int) < (a : Int) + (b : Int) then (401 : Int) else (a : Int) + (b : Int)) = ((min (a + b) 401 : Nat) : Int) := by split <;> omega
set_option maxRecDepth 100000 in
set_option maxHeartbeats 6400000 in
theorem impl_countValues : ∀ (d : Nat), ∀ (xs : List Dt) (_ : WorldOK xs) (t : Ty) (_ : TyIn xs.length t) (_ : d ≤ 10) (w : World) (x : Value) (F : List Nat), Arr w (DtR w) xs x F → Under w.heap.size F →
    Calls Try.prog 59 #[x, .agg #[.int .i64 t.d, .int .i64 t.i], .int .i64 ((d : Nat) : Int)] w fun e w' => e = .returned (.int .i64 (cntU xs d t : Nat)) ∧ Below w.heap.size w w' := by
  intro d
  induction d with
  | zero =>
    intro xs hw t ht hd w x F hx hf
    clear hw ht hd hx hf
    go_enter Try.func59, Try.ntmps59
    go_wp2
    go_ret
    exact ⟨rfl, (Below.refl _ _).alloc (Nat.le_refl _) _⟩
  | succ d ih =>
    intro xs hw t ht hd w x F hx hf
    have IH := Lib.hid ih
    obtain ⟨A, cap, rfl, hc1, hc2⟩ := hx.form
    have hde : ((d + 1 : Nat) : Int) = (d : Int) + 1 := by omega
    have e0 : (((d : Int) + 1) == 0) = false := by rw [beq_eq_false_iff_ne]; omega
    rw [hde]
    clear ih hde
    rcases id ht with hti | ⟨q, r, rfl, hql, hrl⟩
    · have t0 : (t.d == -1) = true := by simp [hti]
      have HP := Lib.hid (cntU_int (xs := xs) (d := d) hti)
      clear hw ht hti hx hf hd
      go_enter Try.func59, Try.ntmps59
      go_wp2
      go_ret
      exact ⟨by rw [HP.out]; rfl, (Below.refl _ _).alloc (Nat.le_refl _) _⟩
    · have t0 : ((q : Int) == -1) = false := by rw [beq_eq_false_iff_ne]; omega
      have hdn : ¬ (⟨(q : Int), (r : Int)⟩ : Ty).d = -1 := by simp only; omega
      have hw1 : IntKind.i64.wrap ((d : Int) + 1 - 1) = (d : Int) := by rw [show (d : Int) + 1 - 1 = d by omega]; exact IntWalk.i64_in _ (by omega)
      have HDN := Lib.hid hdn
      have HW := Lib.hid hw
      have HT := Lib.hid ht

      have HX := Lib.hid hx
      have HF := Lib.hid hf
      clear hx hf
      clear hw ht hdn
      go_enter Try.func59, Try.ntmps59
      go_wp2_with fail
      obtain ⟨W2, hW2⟩ : ∃ W2, W2 = (w.alloc (.cells #[.int .i64 (q : Int), .int .i64 (r : Int)] 36)) := ⟨_, rfl⟩
      have hB0 : Below w.heap.size w W2 := by rw [hW2]; exact (Below.refl _ _).alloc (Nat.le_refl _) _
      have KT : Hid (Blk W2 w.heap.size 36 #[.int .i64 (q : Int), .int .i64 (r : Int)]) := by rw [hW2]; exact Blk.new w _ _
      rw [← hW2]
      clear hW2
      have y0 : W2.cell? ⟨w.heap.size, 0, none⟩ = some (.int .i64 (q : Int)) := (KT.out.cell 0).trans (by simp)
      have y1 : W2.cell? ⟨w.heap.size, 1, none⟩ = some (.int .i64 (r : Int)) := (KT.out.cell 1).trans (by simp)
      have ylt := KT.out.lt
      go_wp2_with fail
      refine (impl_ctorsOf xs (⟨(q : Int), (r : Int)⟩ : Ty) W2 _ F (ArrDt.below HX.out hB0 HF.out) (HF.out.mono hB0.size) HW.out HT.out.inWorld).mono ?_
      rintro e w3 ⟨v3, F3, rfl, hb3, ha3, -, hfs3⟩
      have hB3 := hB0.trans (hb3.mono hB0.size)
      have KT3 := Lib.hid (KT.out.same (hb3.block _ KT.out.lt))
      have HA3 := Lib.hid ha3
      have HU3 := Lib.hid hfs3.under
      obtain ⟨C3, cap3, rfl, hl1, hl2⟩ := ha3.form
      clear ha3 hfs3 hb3 KT y0 y1 ylt hB0
      go_wp2
      go_loopw [7, 22] (fun sv iv wr => ∃ i : Nat, i ≤ (ctorsL xs (⟨(q : Int), (r : Int)⟩ : Ty)).length ∧ iv = .int .i64 i ∧ sv = .int .i64 (cntTo xs d (⟨(q : Int), (r : Int)⟩ : Ty) i : Nat) ∧ Hid (Below w3.heap.size w3 wr)) (fun _ iv _ => (ctorsL xs (⟨(q : Int), (r : Int)⟩ : Ty)).length - (intOf iv).toNat)
      case atStart => exact ⟨0, Nat.zero_le _, rfl, by rw [cntTo_zero]; rfl, Below.refl _ _⟩
      case round =>
        obtain ⟨i, hi, rfl, rfl, HBI⟩ := hrel
        obtain ⟨wo, hwo⟩ : ∃ wo, wo = wr := ⟨_, rfl⟩
        rw [← hwo] at HBI ⊢
        clear hwo
        have hB := hB3.trans (HBI.out.mono hB3.size)
        have KTo := Lib.hid (KT3.out.same (HBI.out.block _ KT3.out.lt))
        have y0 : wo.cell? ⟨w.heap.size, 0, none⟩ = some (.int .i64 (q : Int)) := (KTo.out.cell 0).trans (by simp)
        have y1 : wo.cell? ⟨w.heap.size, 1, none⟩ = some (.int .i64 (r : Int)) := (KTo.out.cell 1).trans (by simp)
        have ylt := KTo.out.lt
        have hs401 := cntTo_le xs d (⟨(q : Int), (r : Int)⟩ : Ty) i
        by_cases hil : i < (ctorsL xs (⟨(q : Int), (r : Int)⟩ : Ty)).length
        · have g1 : (0 : Int) ≤ (i : Int) := by omega
          have g2 : (i : Int) < ((ctorsL xs (⟨(q : Int), (r : Int)⟩ : Ty)).length : Int) := by omega
          obtain ⟨b3, off3, rfl⟩ := HA3.out.ptr (by omega)
          obtain ⟨hb3l, c3⟩ := ArrNat.at HA3.out HU3.out HBI.out i hil
          obtain ⟨q', m, e1, hkm, hq', hm⟩ := mem_ctorsL HT.out.inWorld (List.getElem_mem hil)
          obtain rfl : q = q' := Int.ofNat.inj e1
          have hme : (ctorsL xs (⟨(q : Int), (r : Int)⟩ : Ty))[i] ∈ (ctorsL xs (⟨(q : Int), (r : Int)⟩ : Ty)) := List.getElem_mem hil
          rw [hkm] at c3 hme
          have hals := argsOf_get (i := (r : Int)) hql hm
          have hca := (HW.out.ctor hql hm).args
          have HST : Hid (∀ j, (argsL xs[q].ctors[m] (r : Int)).length = j → cntTo xs d (⟨(q : Int), (r : Int)⟩ : Ty) (i + 1) = min (cntTo xs d (⟨(q : Int), (r : Int)⟩ : Ty) i + cntArg xs d (argsL xs[q].ctors[m] (r : Int)) j) 401) := fun j hj => by
            have h := cntTo_succ xs d (⟨(q : Int), (r : Int)⟩ : Ty) i hil (j := j) (by rw [hkm, hals]; exact hj)
            rw [hkm, hals] at h
            exact h
          have HTI : Hid (∀ a ∈ argsL xs[q].ctors[m] (r : Int), TyIn xs.length a) := fun a ha => argsOf_in HW.out HT.out hme (by rw [hals]; exact ha)
          clear hkm e1 hme hals
          go_wp2_with fail
          refine (impl_argTypes xs q m (r : Int) hql hm wo _ F (ArrDt.below HX.out hB HF.out) (HF.out.mono hB.size) hca).mono ?_
          rintro e w6 ⟨v6, F6, rfl, hb6, ha6, -, hfs6⟩
          have HB36 : Hid (Below w3.heap.size w3 w6) := HBI.out.trans (hb6.mono HBI.out.size)
          have hB6 := hB.trans (hb6.mono hB.size)
          generalize hass : argsL xs[q].ctors[m] (r : Int) = ls at *
          clear hass hca
          obtain ⟨A6, cap6, rfl, hd3, hd4⟩ := ha6.form
          have HA6 := Lib.hid ha6
          have HU6 := Lib.hid hfs6.under
          clear ha6 hfs6 hb6 KTo y0 y1 ylt c3 hb3l HBI hB
          go_wp2
          go_loopw [10, 31] (fun nv jv wr => ∃ j : Nat, j ≤ ls.length ∧ jv = .int .i64 j ∧ nv = .int .i64 (cntArg xs d ls j : Nat) ∧ Below w6.heap.size w6 wr) (fun _ jv _ => ls.length - (intOf jv).toNat)
          case atStart => exact ⟨0, Nat.zero_le _, rfl, by rw [cntArg_zero]; rfl, Below.refl _ _⟩
          case round =>
            obtain ⟨j, hj, rfl, rfl, hBr⟩ := hrel
            have hn401 := cntArg_le xs d ls j
            have hBw := hB6.trans (hBr.mono hB6.size)
            by_cases hjl : j < ls.length
            · have g3 : (0 : Int) ≤ (j : Int) := by omega
              have g4 : (j : Int) < (ls.length : Int) := by omega
              obtain ⟨b6, off6, rfl⟩ := HA6.out.ptr (by omega)
              obtain ⟨hb6l, a0, a1⟩ := ArrTy.at HA6.out HU6.out hBr j hjl
              have hcs := cntArg_succ xs d ls j hjl
              have hc401 := cntU_le xs d ls[j]
              have HTJ := Lib.hid (HTI.out ls[j] (List.getElem_mem hjl))
              have hBx : Below w6.heap.size w6 (wr.alloc (.cells #[.int .i64 ls[j].d, .int .i64 ls[j].i] 36)) := hBr.alloc hBr.size _
              have hBz : Below w.heap.size w (wr.alloc (.cells #[.int .i64 ls[j].d, .int .i64 ls[j].i] 36)) := hB6.trans (hBx.mono hB6.size)
              go_wp2_with fail
              refine (IH.out xs HW.out ls[j] HTJ.out (by omega) _ _ F (ArrDt.below HX.out hBz HF.out) (HF.out.mono hBz.size)).mono ?_
              rintro e w8 ⟨rfl, hb8⟩
              have hB8 : Below w6.heap.size w6 w8 := hBx.trans (hb8.mono hBx.size)
              have HCS := Lib.hid hcs
              generalize cntU xs d ls[j] = cv at *
              generalize cntArg xs d ls j = nv at *
              have hmul : nv * cv ≤ 401 * 401 := Nat.mul_le_mul hn401 hc401
              have hw2 : IntKind.i64.wrap ((nv : Int) * (cv : Int)) = ((nv * cv : Nat) : Int) := by rw [← Int.natCast_mul]; exact IntWalk.i64_in _ (by omega)
              clear hcs hb8 hBx hBz a0 a1 hb6l
              go_wp2
              go_roundw
              case rel => exact ⟨j + 1, hjl, by go_num, by rw [HCS.out, ← min_mul], hB8⟩
              case measure => (simp [intOf] <;> omega)
            · have hjd : ls.length = j := by omega
              have hst := HST.out j hjd
              have HST2 := Lib.hid hst
              have hBI2 : Hid (Below w3.heap.size w3 wr) := HB36.out.trans (hBr.mono HB36.out.size)
              clear hst
              generalize cntTo xs d (⟨(q : Int), (r : Int)⟩ : Ty) i = sv at *
              generalize cntArg xs d ls j = nv at *
              go_wp2
              go_roundw
              case rel => exact ⟨i + 1, hil, by go_num, by rw [HST2.out, ← min_add], hBI2⟩
              case measure => (simp [intOf] <;> omega)
        · have HALL := Lib.hid (cntTo_all (xs := xs) (d := d) HDN.out (i := i) (Nat.le_of_not_lt hil))
          go_wp2
          go_ret
          exact ⟨ret_int (congrArg Int.ofNat HALL.out), hB⟩
end Go.Proofs.Ytgckkiencmickaa

namespace Go.Proofs.Ytgckkiencmickaa
open Go.RowKit

set_option maxRecDepth 100000 in
set_option maxHeartbeats 1600000 in
theorem values_closure (xs : List Dt) (hw : WorldOK xs) (d : Nat) (hd : d + 1 ≤ 10) (a : Ty) (ha : TyIn xs.length a) (A : Option Addr) (cap : Nat) (g1 g2 : Nat) (w : World) (F : List Nat) (hx : Arr w (DtR w) xs (.slice A xs.length cap) F) (hf : Under w.heap.size F) (hg1 : w.cell? ⟨g1, 0, none⟩ = some (.slice A xs.length cap)) (hl1 : g1 < w.heap.size) (hg2 : w.cell? ⟨g2, 0, none⟩ = some (.int .i64 ((d : Int) + 1))) (hl2 : g2 < w.heap.size) :
    Calls Try.prog 105 #[.agg #[.int .i64 a.d, .int .i64 a.i], .pointer (some ⟨g1, 0, none⟩), .pointer (some ⟨g2, 0, none⟩)] w fun e w' => e = .returned (.bool ((valsL xs d a).length == 0)) ∧ Below w.heap.size w w' := by
  have HN := Lib.hid (cntU_none xs d a)
  have HX := Lib.hid hx
  have HF := Lib.hid hf
  clear hx hf
  go_enter Try.func105, Try.ntmps105
  go_wp2_with fail
  obtain ⟨W2, hW2⟩ : ∃ W2, W2 = (w.alloc (.cells #[.int .i64 a.d, .int .i64 a.i] 36)) := ⟨_, rfl⟩
  have hB : Below w.heap.size w W2 := by rw [hW2]; exact (Below.refl _ _).alloc (Nat.le_refl _) _
  have KP : Blk W2 w.heap.size 36 #[.int .i64 a.d, .int .i64 a.i] := by rw [hW2]; exact Blk.new _ _ _
  have z0 : W2.cell? ⟨w.heap.size, 0, none⟩ = some (.int .i64 a.d) := (KP.cell 0).trans (by simp)
  have z1 : W2.cell? ⟨w.heap.size, 1, none⟩ = some (.int .i64 a.i) := (KP.cell 1).trans (by simp)
  have klt := KP.lt
  have y0 : W2.cell? ⟨g1, 0, none⟩ = some (.slice A xs.length cap) := (hB.cell (p := ⟨g1, 0, none⟩) hl1).trans hg1
  have y1 : W2.cell? ⟨g2, 0, none⟩ = some (.int .i64 ((d : Int) + 1)) := (hB.cell (p := ⟨g2, 0, none⟩) hl2).trans hg2
  have l1 := Nat.lt_of_lt_of_le hl1 hB.size
  have l2 := Nat.lt_of_lt_of_le hl2 hB.size
  rw [← hW2]
  clear hW2 KP hg1 hg2 hl1 hl2
  go_wp2_with fail
  refine (impl_countValues d xs hw a ha (by omega) W2 _ F (ArrDt.below HX.out hB HF.out) (HF.out.mono hB.size)).mono ?_
  rintro e w' ⟨rfl, hB'⟩
  have hB3 := hB.trans (hB'.mono hB.size)
  generalize hbb : ((cntU xs d a : Nat) : Int) = bb
  rw [hbb] at HN
  clear hbb hB' y0 y1 z0 z1 l1 l2 klt
  go_wp2
  go_ret
  exact ⟨ret_bool HN.out, hB3⟩
set_option maxRecDepth 100000 in
set_option maxHeartbeats 1600000 in
theorem IndexFunc_Ty2 (xs : List Dt) (hw : WorldOK xs) (d : Nat) (hd : d + 1 ≤ 10) (A : Option Addr) (cap : Nat) (g1 g2 : Nat) (l : List Ty) (hl : ∀ a ∈ l, TyIn xs.length a) (r : Int) (hr : FirstAt (fun a => (valsL xs d a).length == 0) l r) (w : World) (y : Value) (F G : List Nat) (hx : Arr w (DtR w) xs (.slice A xs.length cap) F) (hf : Under w.heap.size F) (hy : Arr w (TyR w) l y G) (hh : Under w.heap.size G) (hg1 : w.cell? ⟨g1, 0, none⟩ = some (.slice A xs.length cap)) (hl1 : g1 < w.heap.size) (hg2 : w.cell? ⟨g2, 0, none⟩ = some (.int .i64 ((d : Int) + 1))) (hl2 : g2 < w.heap.size) :
    Calls Try.prog 132 #[y, .func (.func 105) #[] #[.pointer (some ⟨g1, 0, none⟩), .pointer (some ⟨g2, 0, none⟩)]] w fun e w' => e = .returned (.int .i64 r) ∧ Below w.heap.size w w' := by
  obtain ⟨B, bap, rfl, hc1, hc2⟩ := hy.form
  have HLL := Lib.hid hl
  have HX := Lib.hid hx
  have HF := Lib.hid hf
  have HR := Lib.hid hr
  have HY := Lib.hid hy
  have HH := Lib.hid hh
  have HG1 := Lib.hid hg1
  have HG2 := Lib.hid hg2
  clear hx hf hr hy hh hg1 hg2
  clear hl
  go_enter Try.func132, Try.ntmps132
  go_wp2
  go_loopw [8] (fun iv wr => ∃ i : Nat, i ≤ l.length ∧ iv = .int .i64 i ∧ Hid (∀ j (hj : j < l.length), j < i → ((valsL xs d l[j]).length == 0) = false) ∧ Below w.heap.size w wr) (fun iv _ => l.length - (intOf iv).toNat)
  case atStart => exact ⟨0, Nat.zero_le _, rfl, fun j hj h => by omega, Below.refl _ _⟩
  case round =>
    obtain ⟨i, hk, rfl, HT, hB⟩ := hrel
    by_cases hlt : i < l.length
    · have hi0 : (0 : Int) ≤ (i : Int) := by omega
      have hi1 : (i : Int) < (l.length : Int) := by omega
      obtain ⟨b, off, rfl⟩ := HY.out.ptr (by omega)
      obtain ⟨hb, c0, c1⟩ := ArrTy.at HY.out HH.out hB i hlt
      go_wp2_with fail
      refine (values_closure xs hw d hd l[i] (HLL.out _ (List.getElem_mem hlt)) A cap g1 g2 wr F (ArrDt.below HX.out hB HF.out) (HF.out.mono hB.size) ((hB.cell (p := ⟨g1, 0, none⟩) hl1).trans HG1.out) (Nat.lt_of_lt_of_le hl1 hB.size) ((hB.cell (p := ⟨g2, 0, none⟩) hl2).trans HG2.out) (Nat.lt_of_lt_of_le hl2 hB.size)).mono ?_
      rintro e w' ⟨rfl, hB'⟩
      have hB3 := hB.trans (hB'.mono hB.size)
      cases hq : ((valsL xs d l[i]).length == 0) with
      | true =>
        have hf : Hid (r = (i : Int)) := HR.out.hit hlt hq (fun j hj h => HT.out j hj h)
        clear hq c0 c1
        go_wp2
        go_ret
        exact ⟨ret_int hf.out.symm, hB3⟩
      | false =>
        have hT2 : Hid (∀ j (hj : j < l.length), j < i + 1 → ((valsL xs d l[j]).length == 0) = false) := fun j hj h => by
          rcases Nat.lt_or_ge j i with h2 | h2
          · exact HT.out j hj h2
          · obtain rfl : j = i := by omega
            exact hq
        clear hq c0 c1
        go_wp2
        go_roundw
        case rel => exact ⟨i + 1, by omega, by go_num, hT2, hB3⟩
        case measure => simp [intOf]; omega
    · have hf : Hid (r = -1) := HR.out.miss (fun j hj => HT.out j hj (by omega))
      go_wp2
      go_ret
      exact ⟨ret_int hf.out.symm, hB⟩
set_option maxRecDepth 100000 in
set_option maxHeartbeats 1600000 in
theorem ContainsFunc_Ty2 (xs : List Dt) (hw : WorldOK xs) (d : Nat) (hd : d + 1 ≤ 10) (A : Option Addr) (cap : Nat) (g1 g2 : Nat) (l : List Ty) (hl : ∀ a ∈ l, TyIn xs.length a) (w : World) (y : Value) (F G : List Nat) (hx : Arr w (DtR w) xs (.slice A xs.length cap) F) (hf : Under w.heap.size F) (hy : Arr w (TyR w) l y G) (hh : Under w.heap.size G) (hg1 : w.cell? ⟨g1, 0, none⟩ = some (.slice A xs.length cap)) (hl1 : g1 < w.heap.size) (hg2 : w.cell? ⟨g2, 0, none⟩ = some (.int .i64 ((d : Int) + 1))) (hl2 : g2 < w.heap.size) :
    Calls Try.prog 104 #[y, .func (.func 105) #[] #[.pointer (some ⟨g1, 0, none⟩), .pointer (some ⟨g2, 0, none⟩)]] w fun e w' => e = .returned (.bool (noneB xs d l)) ∧ Below w.heap.size w w' := by
  obtain ⟨r, hr⟩ := FirstAt.ex (fun a => (valsL xs d a).length == 0) l
  have hres : Hid (noneB xs d l = decide (0 ≤ r)) := hr.any
  have hcall := IndexFunc_Ty2 xs hw d hd A cap g1 g2 l hl r hr w y F G hx hf hy hh hg1 hl1 hg2 hl2
  obtain ⟨B, bap, rfl, hc1, hc2⟩ := hy.form
  have HC := Lib.hid hcall
  clear hcall hr hx hf hy hh hg1 hg2
  go_enter Try.func104, Try.ntmps104
  go_wp2_with fail
  refine HC.out.mono ?_
  rintro e w' ⟨rfl, hB'⟩
  go_wp2
  go_ret
  exact ⟨ret_bool hres.out.symm, hB'⟩
theorem VR_one (w : World) (x : V) (cs : List Value) (G : List Nat) (h : VR w x cs G) : ∀ u ∈ cs, u.oneCell' = true := by
  obtain ⟨kv, rfl, ha⟩ := (VR_iff _ _ _).1 h
  obtain ⟨A, cap, rfl, -, -⟩ := ha.form
  simp [Value.oneCell']
/-- a copy of a list of values: a row of the call's own, its elements as before -/
def ClonedV (ks : List V) (w : World) (F : List Nat) (e : Ending) (w' : World) : Prop := ∃ v G, e = .returned v ∧ Below w.heap.size w w' ∧ Own w' w.heap.size 25 3 VR ks v G ∧ ∀ b ∈ G, b ∈ F
set_option maxRecDepth 100000 in
set_option maxHeartbeats 1600000 in
theorem Clone_V (ks : List V) (hk : ks.length ≤ 1000) (w : World) (x : Value) (F : List Nat) (hx : Arr w (VR w) ks x F) (hf : Under w.heap.size F) : Calls Try.prog 106 #[x] w (ClonedV ks w F) := by
  obtain ⟨A, cap, rfl, hc1, hc2⟩ := hx.form
  obtain ⟨i0, hi, hz0, hz1, hz2⟩ := info_parts info_VE
  have HI := Lib.hid hi
  have HZ0 := Lib.hid hz0
  have HZ1 := Lib.hid hz1
  have HZ2 := Lib.hid hz2
  have HX := Lib.hid hx
  have HF := Lib.hid hf
  clear hi hz0 hz1 hz2 hx hf
  have qT : ∀ (w : World) (a : Option Addr) (n c n' c' : Nat), (binOp .eql 23 (.slice a n c) (.slice none n' c')).run Try.prog w = .ok (.bool a.isNone) w := fun w a n c n' c' => Lib.run_eql_slice_nil w _ _ a n c n' c' Try.underlying23
  cases A with
  | none =>
    have hz : ks = [] := by
      obtain ⟨A', cap', hv, h1, h2, h3⟩ := HX.out
      cases hv
      rcases h3 with ⟨h, -⟩ | ⟨b, off, cs, G, h, -⟩
      · exact h
      · cases h
    subst hz
    go_enter Try.func106, Try.ntmps106
    go_wp2
    go_ret
    exact ⟨_, [], rfl, Below.refl _ _, Own.nil _ _ _ _ _, fun b hb => by cases hb⟩
  | some ad =>
    have hB0 : Below w.heap.size w (w.alloc (.cells #[] 25)) := (Below.refl _ _).alloc (Nat.le_refl _) _
    have hO0 : Own (w.alloc (.cells #[] 25)) w.heap.size 25 3 VR ([] : List V) (.slice (some ⟨w.heap.size, 0, none⟩) 0 0) [] := Own.made w _ _ _ _ _ 0 (Nat.le_refl _) (by simp [maxLen]) rfl
    have hX0 : Arr (w.alloc (.cells #[] 25)) (VR (w.alloc (.cells #[] 25))) ks (.slice (some ad) ks.length cap) F := ArrV.below HX.out hB0 HF.out
    obtain ⟨v', w', G, hr, ho, hG, hgr, hat⟩ := run_append_all (P := Try.prog) 23 23 i0 _ 40 Try.underlying23 HI.out HZ0.out HZ1.out HZ2.out rfl (by decide) VR_len' VR_mono' VR_one hO0 hX0 (HF.out.mono hB0.size) (fun g hg hgF => by rw [rowOf_some, List.mem_singleton] at hg; subst hg; exact Nat.lt_irrefl _ (HF.out _ hgF)) (by simp; omega) (by simp; omega) hB0.size
    rw [List.nil_append, List.nil_append] at ho
    have hB' : Below w.heap.size w w' := hB0.grown hgr hB0.size (fun g hg => by
      have hg : some w.heap.size = some g := hg
      cases hg; exact Nat.le_refl _)
    have HFin : Hid (ClonedV ks w F (.returned v') w') := ⟨v', G, rfl, hB', ho, hG⟩
    have HRUN := Lib.hid hr
    clear hr ho hB' hgr hat hG hX0 hO0 hB0
    go_enter Try.func106, Try.ntmps106
    go_wp2_with (at_builtin; refine Halt.mk ?_)
    refine Halt.of (wpList_append_run rfl _ _ 23 rfl (by rfl) (by rfl) HRUN.out ?_)
    go_wp2
    go_ret
    exact HFin.out
end Go.Proofs.Ytgckkiencmickaa

namespace Go.Proofs.Ytgckkiencmickaa
open Go.RowKit

set_option maxRecDepth 100000 in
set_option maxHeartbeats 1600000 in
theorem impl_number (n : Int) (w : World) : Calls Try.prog 103 #[.int .i64 n] w fun e w' => e = .returned (.agg #[.int .i64 (-1), .int .i64 n, .slice none 0 0]) ∧ Below w.heap.size w w' := by
  have KR : Hid (Blk (w.alloc (.cells #[.int .i64 0, .int .i64 0, .slice none 0 0] 25)) w.heap.size 25 #[.int .i64 0, .int .i64 0, .slice none 0 0]) := Blk.new _ _ _
  have HB : Hid (Below w.heap.size w (w.alloc (.cells #[.int .i64 0, .int .i64 0, .slice none 0 0] 25))) := (Below.refl _ _).alloc (Nat.le_refl _) _
  go_enter Try.func103, Try.ntmps103
  go_wp2
  first
  | refine bodyPost_ret (results_cell_row rfl _ _ w.heap.size 25 #[.int .i64 (-1), .int .i64 n, .slice none 0 0] (0, 0) _ rfl (Blk.new _ _ _) Try.underlying25 rfl rfl) rfl ?_
    exact ⟨rfl, (Below.refl _ _).alloc (Nat.le_refl _) _⟩
  | refine bodyPost_ret (results_cell_row rfl _ _ w.heap.size 25 #[.int .i64 (-1), .int .i64 n, .slice none 0 0] (0, 0) _ rfl (KR.out.three _ _ _) Try.underlying25 rfl rfl) rfl ?_
    exact ⟨rfl, below_three HB.out (Nat.le_refl _) _ _ _⟩
end Go.Proofs.Ytgckkiencmickaa

namespace Go.Proofs.Ytgckkiencmickaa
open Go.RowKit

/-- a list of values that a call gives; its elements may share what they lead to -/
def ValsP (vs : List V) (w : World) (e : Ending) (w' : World) : Prop := ∃ v F, e = .returned v ∧ Below w.heap.size w w' ∧ Arr w' (VR w') vs v F ∧ Fresh w w' F
theorem Own.under_arr {w : World} {B : Nat} {E : TypeId} {vs : List V} {v : Value} {F : List Nat} (h : Own w B E 3 VR vs v F) : Under w.heap.size (if vs = [] then [] else rowOf v ++ F) := by
  by_cases hx : vs = []
  · rw [if_pos hx]; exact Under.nil _
  · rw [if_neg hx]
    intro b hb
    rcases List.mem_append.1 hb with hb | hb
    · exact (h.row b hb).2
    · exact h.under b hb
theorem Own.vals {w w' : World} {B : Nat} {E : TypeId} {vs : List V} {v : Value} {F : List Nat} (h : Own w' B E 3 VR vs v F) (hb : Below w.heap.size w w') (hB : w.heap.size ≤ B) (hF : ∀ b ∈ F, w.heap.size ≤ b) : ValsP vs w (.returned v) w' := ⟨v, _, rfl, hb, h.arr, h.fresh hB hF⟩
def moreTo (pre : List V) (c : Int) (v : V) (kids : List V) (q : Nat) : List V := pre ++ growK c v (kids.take q)
theorem moreTo_zero (pre : List V) (c : Int) (v : V) (kids : List V) : moreTo pre c v kids 0 = pre := by unfold moreTo growK; simp
theorem moreTo_succ (pre : List V) (c : Int) (v : V) (kids : List V) (q : Nat) (h : q < kids.length) : moreTo pre c v kids (q + 1) = moreTo pre c v kids q ++ [⟨c, 0, v.ks ++ [kids[q]]⟩] := by unfold moreTo; rw [growK_succ c v kids q h, List.append_assoc]
theorem moreTo_len (pre : List V) (c : Int) (v : V) (kids : List V) (q : Nat) : (moreTo pre c v kids q).length ≤ pre.length + q := by unfold moreTo; rw [List.length_append, growK_len, List.length_take]; omega
theorem moreTo_all (pre : List V) (c : Int) (v : V) (kids : List V) {q : Nat} (h : kids.length ≤ q) : moreTo pre c v kids q = pre ++ growK c v kids := by unfold moreTo; rw [List.take_of_length_le h]
theorem numV_R (w : World) (k : Nat) : VR w (numV k) [.int .i64 (-1), .int .i64 (k : Int), .slice none 0 0] [] := (VR_iff _ _ _).2 ⟨_, rfl, Arr.nil⟩
/-- one element, which lies in a block of its own -/
theorem step_pushB {α : Type} {w : World} {B k : Nat} {E : TypeId} {R : World → α → List Value → List Nat → Prop} {xs : List α} {v : Value} {F : List Nat} {P : Program} {ops : Array Oper} {o : Oper} {a : Act} {K : Act → World → Prop} {Q : Exit → Act → World → Prop} {EE : Prop} (hgd : o.guard = none) (s x : Operand) (t : TypeId)
    (ho : o.op = .call { callee := .builtin .append, args := #[s, x], argTypes := #[t, t] })
    (i : TypeInfo) (z : Value) (bytes : Nat) (ht : P.underlying t = some (.slice E)) (hi : P.info? E = some i) (hz : i.zero = some z)
    (hsize : i.size = k) (hby : i.bytes = bytes) (hzs : z.cells.size = k) (hk : 0 < k)
    (hRl : ∀ w x cs G, R w x cs G → cs.length = k) (hRm : ∀ w w' x cs G, Kept G w w' → R w x cs G → R w' x cs G)
    (hs : a.eval s = v) (hown : Own w B E k R xs v F) (y : α) (T : TypeId) (news : List Value) (G : List Nat)
    (H : Nat) (hx : a.eval x = .slice (some ⟨H, 0, none⟩) 1 1) (hH : Blk w H T news.toArray) (h1 : ∀ u ∈ news, u.oneCell' = true)
    (hy : R w y news G) (hG : Under w.heap.size G) (hvG : ∀ g ∈ rowOf v, g ∉ G)
    (h63 : xs.length + 1 ≤ maxLen) (hbytes : (xs.length + 1) * bytes ≤ 140737488355328) (hbase : B ≤ w.heap.size)
    (h : ∀ g cap w', Own w' B E k R (xs ++ [y]) (.slice (some ⟨g, 0, none⟩) (xs.length + 1) cap) (F ++ G) → w.grownBy w' v.ownBlock → (v.ownBlock = some g ∨ g = w.heap.size) →
      K (a.put o.dst (.slice (some ⟨g, 0, none⟩) (xs.length + 1) cap)) w') : if Region.wanted o (yielded ops a.tmps) = true then Oper.wp P o a w K Q else EE :=
  step_push hgd s x t ho i z bytes ht hi hz hsize hby hzs hk (hRl _) (fun w' => hRm _ w') hs hown [y] ⟨H, 0, none⟩ 1 news G hx (fun j u hj => by
      rw [Addr.add_lit, Nat.zero_add, hH.cell]
      simpa using hj) h1 (Flat.one hy) hG hvG Nat.zero_lt_one h63 hbytes hbase
    (fun g cap w' h2 h3 h4 => h g cap w' h2 h3 h4)
/-- facts on one constructor's block -/
structure BlkF (xs : List Dt) (d : Nat) (c : Int) (ls : List Ty) (bl : List V) : Prop where
  none : noneB xs d ls = true → bl = []
  arg : noneB xs d ls = false → ∀ j, (argTo xs d c ls j).length ≤ bl.length
  kid : noneB xs d ls = false → ∀ j (h : j < ls.length), (valsL xs d ls[j]).length ≤ bl.length
  all : argTo xs d c ls ls.length = bl
theorem BlkF.of (xs : List Dt) (d : Nat) (t : Ty) (c : Int) : BlkF xs d c (argsOf xs t c) (blockL xs d t c) := ⟨blockL_none, fun h j => argTo_le h j, fun h j hj => kid_le h hj, argTo_all xs d t c (Nat.le_refl _)⟩
set_option maxRecDepth 100000 in
set_option maxHeartbeats 6400000 in
theorem impl_values : ∀ (d : Nat), ∀ (xs : List Dt) (_ : WorldOK xs) (t : Ty) (_ : TyIn xs.length t) (_ : d ≤ 10) (_ : (valsL xs d t).length ≤ 400) (w : World) (x : Value) (F : List Nat), Arr w (DtR w) xs x F → Under w.heap.size F →
    Calls Try.prog 60 #[x, .agg #[.int .i64 t.d, .int .i64 t.i], .int .i64 ((d : Nat) : Int)] w (ValsP (valsL xs d t) w) := by
  intro d
  induction d with
  | zero =>
    intro xs hw t ht hd hn w x F hx hf
    have hB0 : Below w.heap.size w (((w.alloc (.cells #[x] 34)).alloc (.cells #[.int .i64 t.d, .int .i64 t.i] 36)).alloc (.cells #[.int .i64 0] 3)) := (((Below.refl _ _).alloc (Nat.le_refl _) _).alloc (by simp) _).alloc (by simp; omega) _
    obtain ⟨A, cap, rfl, hc1, hc2⟩ := hx.form
    clear hw ht hd hx hf hn
    go_enter Try.func60, Try.ntmps60
    go_wp2
    go_ret
    exact ⟨_, [], rfl, hB0, Arr.nil, Fresh.nil _ _⟩
  | succ d ih =>
    intro xs hw t ht hd hn w x F hx hf
    have IH := Lib.hid ih
    obtain ⟨A, cap, rfl, hc1, hc2⟩ := hx.form
    have hde : ((d + 1 : Nat) : Int) = (d : Int) + 1 := by omega
    have e0 : (((d : Int) + 1) == 0) = false := by rw [beq_eq_false_iff_ne]; omega
    obtain ⟨i0, hi, hz0, hz1, hz2⟩ := info_parts info_VE
    have HI := Lib.hid hi
    have HZ0 := Lib.hid hz0
    have HZ1 := Lib.hid hz1
    have HZ2 := Lib.hid hz2
    clear hi hz0 hz1 hz2
    rw [hde]
    clear ih hde
    rcases id ht with hti | ⟨q, r, rfl, hql, hrl⟩
    · have t0 : (t.d == -1) = true := by simp [hti]
      have HP := Lib.hid (valsL_int (xs := xs) (d := d) hti)
      have hB0x : Below w.heap.size w (((w.alloc (.cells #[.slice A xs.length cap] 34)).alloc (.cells #[.int .i64 t.d, .int .i64 t.i] 36)).alloc (.cells #[.int .i64 ((d : Int) + 1)] 3)) := (((Below.refl _ _).alloc (Nat.le_refl _) _).alloc (by simp) _).alloc (by simp; omega) _
      clear hw ht hti hx hf hd hn
      go_enter Try.func60, Try.ntmps60
      go_wp2_with fail
      obtain ⟨W2, hW2⟩ : ∃ W2, W2 = (((w.alloc (.cells #[.slice A xs.length cap] 34)).alloc (.cells #[.int .i64 t.d, .int .i64 t.i] 36)).alloc (.cells #[.int .i64 ((d : Int) + 1)] 3)) := ⟨_, rfl⟩
      rw [← hW2] at hB0x ⊢
      clear hW2
      go_loopw [7, 26] (fun ov iv wr => ∃ k : Nat, ∃ Fo : List Nat, k ≤ 10 ∧ iv = .int .i64 k ∧ Hid (Own wr W2.heap.size 25 3 VR (numsL k) ov Fo) ∧ Hid (∀ b ∈ Fo, w.heap.size ≤ b) ∧ Below W2.heap.size W2 wr) (fun _ iv _ => 10 - (intOf iv).toNat)
      case atStart => exact ⟨0, [], by omega, rfl, (show Own _ _ _ _ _ (numsL 0) _ _ from Own.nil _ _ _ _ _), (fun b hb => by cases hb), Below.refl _ _⟩
      case round =>
        obtain ⟨k, Fo, hk, rfl, HO, HFo, hB⟩ := hrel
        obtain ⟨oA, ocap, hov, -, -⟩ := HO.out.form
        subst hov
        have hkl := numsL_len k
        have hBw := hB0x.trans (hB.mono hB0x.size)
        have hol : (numsL k).length ≤ 10 := by omega
        have HKL := Lib.hid hkl
        clear hkl
        by_cases hk9 : k < 10
        · have g1 : (k : Int) < 10 := by omega
          go_wp2_with fail
          refine (impl_number (k : Int) wr).mono ?_
          rintro e w5 ⟨rfl, hb5⟩
          have HO5 := Lib.hid (HO.out.below (fun x cs G hk h => VR_mono' _ _ x cs G hk h) hb5)
          have hB5 := hB.trans (hb5.mono hB.size)
          have HS := Lib.hid (numsL_succ k)
          have hbs := hB5.size
          clear hb5
          go_wp2_with (at_builtin; refine Halt.mk ?_)
          refine Halt.of (wpList_push1 (P := Try.prog) rfl _ _ 23 rfl i0 _ 40 Try.underlying23 HI.out HZ0.out HZ1.out HZ2.out rfl (by decide) VR_len' VR_mono' (by rfl) HO5.out (numV k) 25 [.int .i64 (-1), .int .i64 (k : Int), .slice none 0 0] [] _ (by rfl) (by simp) (by simp [Value.oneCell']) (numV_R _ k) (Under.nil _) (fun _ _ h => by cases h) (by unfold maxLen; omega) (by omega) hbs ?_)
          intro g cp w7 hown7 hgr7 hat7
          have hrow := HO5.out.row
          have hB7 : Below W2.heap.size W2 w7 := (hB5.alloc hB5.size _).grown hgr7 (by have := hB5.size; simp; omega) (fun g hg => (hrow g (mem_rowOf.2 hg)).1)
          have HO7 := Lib.hid hown7
          clear hown7 hgr7 hat7 hrow
          go_wp2
          go_roundw
          case rel => exact ⟨k + 1, _, by omega, by go_num, (by rw [HS.out]; exact HO7.out), (fun b hb => by rw [List.append_nil] at hb; exact HFo.out b hb), hB7⟩
          case measure => (simp [intOf] <;> omega)
        · have hk10 : k = 10 := by omega
          subst hk10
          have HFin : Hid (ValsP (valsL xs (d + 1) t) w (.returned (.slice oA (numsL 10).length ocap)) wr) := by rw [HP.out]; exact HO.out.vals hBw hB0x.size HFo.out
          clear HKL hol
          go_wp2
          go_ret
          exact HFin.out
    · have t0 : ((q : Int) == -1) = false := by rw [beq_eq_false_iff_ne]; omega
      have hdn : ¬ (⟨(q : Int), (r : Int)⟩ : Ty).d = -1 := by simp only; omega
      have HDN := Lib.hid hdn
      have HW := Lib.hid hw
      have HT := Lib.hid ht
      have HN := Lib.hid hn
      have HX := Lib.hid hx
      have HF := Lib.hid hf
      clear hx hf
      clear hw ht hdn hn
      go_enter Try.func60, Try.ntmps60
      go_wp2_with fail
      obtain ⟨W2, hW2⟩ : ∃ W2, W2 = (((w.alloc (.cells #[.slice A xs.length cap] 34)).alloc (.cells #[.int .i64 (q : Int), .int .i64 (r : Int)] 36)).alloc (.cells #[.int .i64 ((d : Int) + 1)] 3)) := ⟨_, rfl⟩
      have hB0 : Below w.heap.size w W2 := by rw [hW2]; exact (((Below.refl _ _).alloc (Nat.le_refl _) _).alloc (by simp) _).alloc (by simp; omega) _
      have KX : Hid (Blk W2 w.heap.size 34 #[.slice A xs.length cap]) := by rw [hW2]; exact ((Blk.new w _ _).same (Below.heap_alloc _ _ _ (by simp))).same (Below.heap_alloc _ _ _ (by simp; omega))
      have KT : Hid (Blk W2 (w.heap.size + 1) 36 #[.int .i64 (q : Int), .int .i64 (r : Int)]) := by rw [hW2]; exact (blk_second w _ 36 _).same (Below.heap_alloc _ _ _ (by simp))
      have KD : Hid (Blk W2 (w.heap.size + 1 + 1) 3 #[.int .i64 ((d : Int) + 1)]) := by
        rw [hW2]
        have h := blk_second (w.alloc (.cells #[.slice A xs.length cap] 34)) (.cells #[.int .i64 (q : Int), .int .i64 (r : Int)] 36) 3 #[.int .i64 ((d : Int) + 1)]
        rw [World.size_alloc] at h
        exact h
      rw [← hW2]
      clear hW2
      have y0 : W2.cell? ⟨w.heap.size, 0, none⟩ = some (.slice A xs.length cap) := (KX.out.cell 0).trans (by simp)
      have y1 : W2.cell? ⟨w.heap.size + 1, 0, none⟩ = some (.int .i64 (q : Int)) := (KT.out.cell 0).trans (by simp)
      have y2 : W2.cell? ⟨w.heap.size + 1, 1, none⟩ = some (.int .i64 (r : Int)) := (KT.out.cell 1).trans (by simp)
      have y3 : W2.cell? ⟨w.heap.size + 1 + 1, 0, none⟩ = some (.int .i64 ((d : Int) + 1)) := (KD.out.cell 0).trans (by simp)
      have yl0 := KX.out.lt
      have yl1 := KT.out.lt
      have yl2 := KD.out.lt
      go_wp2_with fail
      refine (impl_ctorsOf xs (⟨(q : Int), (r : Int)⟩ : Ty) W2 _ F (ArrDt.below HX.out hB0 HF.out) (HF.out.mono hB0.size) HW.out HT.out.inWorld).mono ?_
      rintro e w3 ⟨v3, F3, rfl, hb3, ha3, -, hfs3⟩
      have hB3 := hB0.trans (hb3.mono hB0.size)
      have KX3 := Lib.hid (KX.out.same (hb3.block _ KX.out.lt))
      have KT3 := Lib.hid (KT.out.same (hb3.block _ KT.out.lt))
      have KD3 := Lib.hid (KD.out.same (hb3.block _ KD.out.lt))
      have HA3 := Lib.hid ha3
      have HU3 := Lib.hid hfs3.under
      obtain ⟨C3, cap3, rfl, hl1, hl2⟩ := ha3.form
      clear ha3 hfs3 hb3 KX KT KD hB0
      clear y0 y1 y2 y3 yl0 yl1 yl2
      go_wp2
      go_loopw [7, 40] (fun ov iv wr => ∃ i : Nat, ∃ Fo : List Nat, i ≤ (ctorsL xs (⟨(q : Int), (r : Int)⟩ : Ty)).length ∧ iv = .int .i64 i ∧ Hid (Own wr w3.heap.size 25 3 VR (valsTo xs d (⟨(q : Int), (r : Int)⟩ : Ty) i) ov Fo) ∧ Hid (∀ b ∈ Fo, w.heap.size ≤ b) ∧ Hid (Below w3.heap.size w3 wr)) (fun _ iv _ => (ctorsL xs (⟨(q : Int), (r : Int)⟩ : Ty)).length - (intOf iv).toNat)
      case atStart => exact ⟨0, [], Nat.zero_le _, rfl, (show Own _ _ _ _ _ (valsTo xs d (⟨(q : Int), (r : Int)⟩ : Ty) 0) _ _ from Own.nil _ _ _ _ _), (fun b hb => by cases hb), Below.refl _ _⟩
      case round =>
        obtain ⟨i, Fo, hi, rfl, HO, HFo, HBI⟩ := hrel
        obtain ⟨oA, ocap, hov, -, -⟩ := HO.out.form
        subst hov
        have hvl := valsTo_len (xs := xs) (d := d) (t := (⟨(q : Int), (r : Int)⟩ : Ty)) HDN.out i
        have hn4 := HN.out
        have hol : (valsTo xs d (⟨(q : Int), (r : Int)⟩ : Ty) i).length ≤ 400 := by omega
        clear hvl hn4
        obtain ⟨wo, hwo⟩ : ∃ wo, wo = wr := ⟨_, rfl⟩
        rw [← hwo] at HBI HO ⊢
        clear hwo
        have hB := hB3.trans (HBI.out.mono hB3.size)
        have KXo := Lib.hid (KX3.out.same (HBI.out.block _ KX3.out.lt))
        have KTo := Lib.hid (KT3.out.same (HBI.out.block _ KT3.out.lt))
        have KDo := Lib.hid (KD3.out.same (HBI.out.block _ KD3.out.lt))
        by_cases hil : i < (ctorsL xs (⟨(q : Int), (r : Int)⟩ : Ty)).length
        · have g1 : (0 : Int) ≤ (i : Int) := by omega
          have g2 : (i : Int) < ((ctorsL xs (⟨(q : Int), (r : Int)⟩ : Ty)).length : Int) := by omega
          obtain ⟨b3, off3, rfl⟩ := HA3.out.ptr (by omega)
          obtain ⟨hb3l, c3⟩ := ArrNat.at HA3.out HU3.out HBI.out i hil
          obtain ⟨q', m, e1, hkm, hq', hm⟩ := mem_ctorsL HT.out.inWorld (List.getElem_mem hil)
          obtain rfl : q = q' := Int.ofNat.inj e1
          have hme : (ctorsL xs (⟨(q : Int), (r : Int)⟩ : Ty))[i] ∈ (ctorsL xs (⟨(q : Int), (r : Int)⟩ : Ty)) := List.getElem_mem hil
          rw [hkm] at c3 hme
          have hals := argsOf_get (i := (r : Int)) hql hm
          have hca := (HW.out.ctor hql hm).args
          have hbf := BlkF.of xs d (⟨(q : Int), (r : Int)⟩ : Ty) (m : Int)
          rw [hals] at hbf
          have hst := valsTo_succ xs d (⟨(q : Int), (r : Int)⟩ : Ty) i hil
          rw [hkm] at hst
          have hbl := blockL_len (xs := xs) (d := d) (t := (⟨(q : Int), (r : Int)⟩ : Ty)) HDN.out hil
          rw [hkm] at hbl
          have HTI : Hid (∀ a ∈ argsL xs[q].ctors[m] (r : Int), TyIn xs.length a) := fun a ha => argsOf_in HW.out HT.out hme (by rw [hals]; exact ha)
          have hl3 : (argsL xs[q].ctors[m] (r : Int)).length ≤ 3 := by rw [argsL_len]; exact hca
          have hn4 := HN.out
          generalize blockL xs d (⟨(q : Int), (r : Int)⟩ : Ty) (m : Int) = bl at *
          have hb4 : (valsTo xs d (⟨(q : Int), (r : Int)⟩ : Ty) i).length + bl.length ≤ 400 := by omega
          have HBF := Lib.hid hbf
          have HST := Lib.hid hst
          clear hkm e1 hme hals hbf hst hbl hn4
          have y0 : wo.cell? ⟨w.heap.size, 0, none⟩ = some (.slice A xs.length cap) := (KXo.out.cell 0).trans (by simp)
          have y1 : wo.cell? ⟨w.heap.size + 1, 0, none⟩ = some (.int .i64 (q : Int)) := (KTo.out.cell 0).trans (by simp)
          have y2 : wo.cell? ⟨w.heap.size + 1, 1, none⟩ = some (.int .i64 (r : Int)) := (KTo.out.cell 1).trans (by simp)
          have y3 : wo.cell? ⟨w.heap.size + 1 + 1, 0, none⟩ = some (.int .i64 ((d : Int) + 1)) := (KDo.out.cell 0).trans (by simp)
          have yl0 := KXo.out.lt
          have yl1 := KTo.out.lt
          have yl2 := KDo.out.lt
          go_wp2_with fail
          refine (impl_argTypes xs q m (r : Int) hql hm wo _ F (ArrDt.below HX.out hB HF.out) (HF.out.mono hB.size) hca).mono ?_
          rintro e w6 ⟨v6, F6, rfl, hb6, ha6, -, hfs6⟩
          have HB36 : Hid (Below w3.heap.size w3 w6) := HBI.out.trans (hb6.mono HBI.out.size)
          have hB6 := hB.trans (hb6.mono hB.size)
          have HO6 := Lib.hid (HO.out.below (fun x cs G hk h => VR_mono' _ _ x cs G hk h) hb6)
          have KX6 := Lib.hid (KXo.out.same (hb6.block _ KXo.out.lt))
          have KT6 := Lib.hid (KTo.out.same (hb6.block _ KTo.out.lt))
          have KD6 := Lib.hid (KDo.out.same (hb6.block _ KDo.out.lt))
          generalize hass : argsL xs[q].ctors[m] (r : Int) = ls at *
          clear hass hca
          obtain ⟨A6, cap6, rfl, hd3, hd4⟩ := ha6.form
          have HA6 := Lib.hid ha6
          have HU6 := Lib.hid hfs6.under
          clear ha6 hfs6 hb6 KXo KTo KDo y0 y1 y2 y3 yl0 yl1 yl2 c3 hb3l HBI hB HO
          have y0 : w6.cell? ⟨w.heap.size, 0, none⟩ = some (.slice A xs.length cap) := (KX6.out.cell 0).trans (by simp)
          have y1 : w6.cell? ⟨w.heap.size + 1, 0, none⟩ = some (.int .i64 (q : Int)) := (KT6.out.cell 0).trans (by simp)
          have y2 : w6.cell? ⟨w.heap.size + 1, 1, none⟩ = some (.int .i64 (r : Int)) := (KT6.out.cell 1).trans (by simp)
          have y3 : w6.cell? ⟨w.heap.size + 1 + 1, 0, none⟩ = some (.int .i64 ((d : Int) + 1)) := (KD6.out.cell 0).trans (by simp)
          have yl0 := KX6.out.lt
          have yl1 := KT6.out.lt
          have yl2 := KD6.out.lt
          go_wp2_with fail
          refine (ContainsFunc_Ty2 xs HW.out d hd A cap w.heap.size (w.heap.size + 1 + 1) ls HTI.out w6 _ F F6 (ArrDt.below HX.out hB6 HF.out) (HF.out.mono hB6.size) HA6.out HU6.out y0 yl0 y3 yl2).mono ?_
          rintro e w7 ⟨rfl, hb7⟩
          have HB37 : Hid (Below w3.heap.size w3 w7) := HB36.out.trans (hb7.mono HB36.out.size)
          have hB7 := hB6.trans (hb7.mono hB6.size)
          have HO7 := Lib.hid (HO6.out.below (fun x cs G hk h => VR_mono' _ _ x cs G hk h) hb7)
          have KX7 := Lib.hid (KX6.out.same (hb7.block _ KX6.out.lt))
          have KT7 := Lib.hid (KT6.out.same (hb7.block _ KT6.out.lt))
          have KD7 := Lib.hid (KD6.out.same (hb7.block _ KD6.out.lt))
          have HA7 : Hid (Arr w7 (TyR w7) ls (.slice A6 ls.length cap6) F6) := HA6.out.mono (.of_below hb7 HU6.out) (fun y _ cs G _ h => h)
          have HU7 := Lib.hid (HU6.out.mono hb7.size)
          clear hb7 KX6 KT6 KD6 y0 y1 y2 y3 yl0 yl1 yl2 HA6 HU6 HO6 HB36 hB6
          cases hnb : noneB xs d ls with
          | true =>
            have hE : Hid (valsTo xs d (⟨(q : Int), (r : Int)⟩ : Ty) (i + 1) = valsTo xs d (⟨(q : Int), (r : Int)⟩ : Ty) i) := by unfold Hid; rw [HST.out, HBF.out.none hnb, List.append_nil]
            clear hnb
            go_wp2
            go_roundw
            case rel => exact ⟨i + 1, _, hil, by go_num, (by rw [hE.out]; exact HO7.out), HFo.out, HB37⟩
            case measure => (simp [intOf] <;> omega)
          | false =>
            have HAR := Lib.hid (HBF.out.arg hnb)
            have HKI := Lib.hid (HBF.out.kid hnb)
            clear hnb
            go_wp2_with fail
            obtain ⟨w8, hw8⟩ : ∃ w8, w8 = w7.alloc (.cells [.int .i64 (m : Int), .int .i64 0, .slice none 0 0].toArray 25) := ⟨_, rfl⟩
            have hb8 : Below w7.heap.size w7 w8 := by rw [hw8]; exact (Below.refl _ _).alloc (Nat.le_refl _) _
            have hK8 : Blk w8 w7.heap.size 25 [.int .i64 (m : Int), .int .i64 0, .slice none 0 0].toArray := by rw [hw8]; exact Blk.new _ _ _
            have hLA : Arr w8 (VR w8) (argTo xs d (m : Int) ls 0) (.slice (some ⟨w7.heap.size, 0, none⟩) 1 1) [w7.heap.size] := by
              rw [argTo_zero]
              exact ⟨_, _, rfl, Nat.le_refl _, by simp [maxLen], .inr ⟨_, 0, [.int .i64 (m : Int), .int .i64 0, .slice none 0 0], [], rfl, (fun j u hj => by rw [Nat.zero_add, hK8.cell]; simpa using hj), Flat.one ((VR_iff _ _ _).2 ⟨_, rfl, Arr.nil⟩), rfl⟩⟩
            have hLU : Under w8.heap.size [w7.heap.size] := fun b hb => by rw [List.mem_singleton] at hb; subst hb; exact hK8.lt
            have HLB0 : Hid (∀ b ∈ [w7.heap.size], w7.heap.size ≤ b) := fun b hb => by rw [List.mem_singleton] at hb; subst hb; exact Nat.le_refl _
            have HL0 := Lib.hid hLA
            have HLU0 := Lib.hid hLU
            have hw8' := hw8
            simp only [List.toArray] at hw8'
            first | rw [← hw8] | rw [← hw8']
            clear hw8 hw8' hK8 hLA hLU
            have h78 := hb8.size
            have HB38 : Hid (Below w3.heap.size w3 w8) := HB37.out.trans (hb8.mono HB37.out.size)
            have hB8 := hB7.trans (hb8.mono hB7.size)
            have h7w : w.heap.size ≤ w7.heap.size := hB7.size
            have H7R : Hid (∀ g ∈ rowOf (.slice oA (valsTo xs d (⟨(q : Int), (r : Int)⟩ : Ty) i).length ocap), g < w7.heap.size) := fun g hg => (HO7.out.row g hg).2
            have HO8 := Lib.hid (HO7.out.below (fun x cs G hk h => VR_mono' _ _ x cs G hk h) hb8)
            have KX8 := Lib.hid (KX7.out.same (hb8.block _ KX7.out.lt))
            have KT8 := Lib.hid (KT7.out.same (hb8.block _ KT7.out.lt))
            have KD8 := Lib.hid (KD7.out.same (hb8.block _ KD7.out.lt))
            have HA8 : Hid (Arr w8 (TyR w8) ls (.slice A6 ls.length cap6) F6) := HA7.out.mono (.of_below hb8 HU7.out) (fun y _ cs G _ h => h)
            have HU8 := Lib.hid (HU7.out.mono hb8.size)
            clear hb8 KX7 KT7 KD7 HA7 HU7 HO7 HB37 hB7
            go_wp2
            go_loopw [12, 56] (fun lv jv wr => ∃ j : Nat, ∃ Fl : List Nat, j ≤ ls.length ∧ jv = .int .i64 j ∧ Hid (Arr wr (VR wr) (argTo xs d (m : Int) ls j) lv Fl) ∧ Hid (Under wr.heap.size Fl) ∧ Hid (∀ b ∈ Fl, w7.heap.size ≤ b) ∧ Hid (Below w8.heap.size w8 wr)) (fun _ jv _ => ls.length - (intOf jv).toNat)
            case atStart => exact ⟨0, _, Nat.zero_le _, rfl, HL0.out, HLU0.out, HLB0.out, Below.refl _ _⟩
            case round =>
              clear HL0 HLU0 HLB0
              obtain ⟨j, Fl, hj, rfl, HL, HLU, HLL, HB8⟩ := hrel
              obtain ⟨lA, lcap, hlv, -, -⟩ := HL.out.form
              subst hlv
              obtain ⟨wp, hwp⟩ : ∃ wp, wp = wr := ⟨_, rfl⟩
              rw [← hwp] at HL HLU HB8 ⊢
              clear hwp
              have hB9 := hB8.trans (HB8.out.mono hB8.size)
              have KXp := Lib.hid (KX8.out.same (HB8.out.block _ KX8.out.lt))
              have KTp := Lib.hid (KT8.out.same (HB8.out.block _ KT8.out.lt))
              have KDp := Lib.hid (KD8.out.same (HB8.out.block _ KD8.out.lt))
              by_cases hjl : j < ls.length
              · have g3 : (0 : Int) ≤ (j : Int) := by omega
                have g4 : (j : Int) < (ls.length : Int) := by omega
                obtain ⟨b6, off6, rfl⟩ := HA8.out.ptr (by omega)
                obtain ⟨hb6l, a0, a1⟩ := ArrTy.at HA8.out HU8.out HB8.out j hjl
                have HTJ := Lib.hid (HTI.out ls[j] (List.getElem_mem hjl))
                have hk4 := HKI.out j hjl
                have HKJ : Hid ((valsL xs d ls[j]).length ≤ 400) := by unfold Hid; omega
                have hs4 := HAR.out (j + 1)
                have hsl := argTo_len_succ xs d (m : Int) ls j hjl
                have HSU := Lib.hid (argTo_succ xs d (m : Int) ls j hjl)
                have HPR : Hid ((argTo xs d (m : Int) ls j).length * (valsL xs d ls[j]).length ≤ 400) := by unfold Hid; omega
                have hlj := HAR.out j
                have hll : (argTo xs d (m : Int) ls j).length ≤ 400 := by omega
                have HHD := Lib.hid (argTo_headed xs d (m : Int) ls j hj)
                clear hk4 hs4 hsl hlj
                have y0 : wp.cell? ⟨w.heap.size, 0, none⟩ = some (.slice A xs.length cap) := (KXp.out.cell 0).trans (by simp)
                have y1 : wp.cell? ⟨w.heap.size + 1, 0, none⟩ = some (.int .i64 (q : Int)) := (KTp.out.cell 0).trans (by simp)
                have y2 : wp.cell? ⟨w.heap.size + 1, 1, none⟩ = some (.int .i64 (r : Int)) := (KTp.out.cell 1).trans (by simp)
                have y3 : wp.cell? ⟨w.heap.size + 1 + 1, 0, none⟩ = some (.int .i64 ((d : Int) + 1)) := (KDp.out.cell 0).trans (by simp)
                have yl0 := KXp.out.lt
                have yl1 := KTp.out.lt
                have yl2 := KDp.out.lt
                go_wp2_with fail
                obtain ⟨w9, hw9⟩ : ∃ w9, w9 = (wp.alloc (.cells #[.int .i64 ls[j].d, .int .i64 ls[j].i] 36)) := ⟨_, rfl⟩
                have hb9 : Below wp.heap.size wp w9 := by rw [hw9]; exact (Below.refl _ _).alloc (Nat.le_refl _) _
                have hK9 : Blk w9 wp.heap.size 36 #[.int .i64 ls[j].d, .int .i64 ls[j].i] := by rw [hw9]; exact Blk.new _ _ _
                rw [← hw9]
                clear hw9 hK9
                have HB89 : Hid (Below w8.heap.size w8 w9) := HB8.out.trans (hb9.mono HB8.out.size)
                have hBw9 := hB9.trans (hb9.mono hB9.size)
                have HL9 := Lib.hid (ArrV.below HL.out hb9 HLU.out)
                have HLU9 := Lib.hid (HLU.out.mono hb9.size)
                have KX9 := Lib.hid (KXp.out.same (hb9.block _ KXp.out.lt))
                have KT9 := Lib.hid (KTp.out.same (hb9.block _ KTp.out.lt))
                have KD9 := Lib.hid (KDp.out.same (hb9.block _ KDp.out.lt))
                clear hb9 KXp KTp KDp HL HLU HB8 hB9 a0 a1 hb6l y0 y1 y2 y3 yl0 yl1 yl2
                refine (IH.out xs HW.out ls[j] HTJ.out (by omega) HKJ.out w9 _ F (ArrDt.below HX.out hBw9 HF.out) (HF.out.mono hBw9.size)).mono ?_
                rintro e w10 ⟨kv0, Fk, rfl, hb10, hak, hfk⟩
                have huk := hfk.under
                have HKL : Hid (∀ b ∈ Fk, w7.heap.size ≤ b) := fun b hb => Nat.le_trans (Nat.le_trans h78 HB89.out.size) (hfk b hb).1
                have HB8a : Hid (Below w8.heap.size w8 w10) := HB89.out.trans (hb10.mono HB89.out.size)
                have h710 : w7.heap.size ≤ w10.heap.size := Nat.le_trans h78 HB8a.out.size
                have HLa := Lib.hid (ArrV.below HL9.out hb10 HLU9.out)
                have HLUa := Lib.hid (HLU9.out.mono hb10.size)
                have HKA := Lib.hid hak
                have HKU := Lib.hid huk
                obtain ⟨kA, kcap, rfl, -, -⟩ := hak.form
                clear hak huk hfk hb10 HL9 HLU9 HB89 hBw9 KX9 KT9 KD9
                generalize hki : valsL xs d ls[j] = ki at *
                clear hki
                generalize hli : argTo xs d (m : Int) ls j = li at *
                clear hli
                go_wp2
                go_loopw [16, 67] (fun mv pv wr => ∃ p : Nat, ∃ Fm : List Nat, p ≤ li.length ∧ pv = .int .i64 p ∧ Hid (Own wr w10.heap.size 25 3 VR (growTo (m : Int) li ki p) mv Fm) ∧ Hid (∀ b ∈ Fm, w7.heap.size ≤ b) ∧ Hid (Below w10.heap.size w10 wr)) (fun _ pv _ => li.length - (intOf pv).toNat)
                case atStart => exact ⟨0, [], Nat.zero_le _, rfl, (show Own _ _ _ _ _ (growTo (m : Int) li ki 0) _ _ from Own.nil _ _ _ _ _), (fun b hb => by cases hb), Below.refl _ _⟩
                case round =>
                  obtain ⟨p, Fm, hp, rfl, HM, HFM, HBM⟩ := hrel
                  obtain ⟨mA, mcap, hmv, -, -⟩ := HM.out.form
                  subst hmv
                  have hpl := growTo_len (m : Int) li ki p hp
                  have HPL := Lib.hid hpl
                  obtain ⟨wq, hwq⟩ : ∃ wq, wq = wr := ⟨_, rfl⟩
                  rw [← hwq] at HM HBM ⊢
                  clear hwq hpl
                  by_cases hpl : p < li.length
                  · have g5 : (0 : Int) ≤ (p : Int) := by omega
                    have g6 : (p : Int) < (li.length : Int) := by omega
                    obtain ⟨b8, off8, rfl⟩ := HLa.out.ptr (by omega)
                    obtain ⟨vA, vcap, Gv, hb8l, v0, v1, v2, HVv, HVu, HVs, -, -⟩ := ArrV.at HLa.out HLUa.out HBM.out p hpl
                    have HGS := Lib.hid (growTo_succ (m : Int) li ki p hpl)
                    have HH := Lib.hid (HHD.out li[p] (List.getElem_mem hpl))
                    have hmul : (p + 1) * ki.length ≤ li.length * ki.length := Nat.mul_le_mul_right _ hpl
                    have hpr := HPR.out
                    have hpl2 := HPL.out
                    have hms : (p + 1) * ki.length = p * ki.length + ki.length := by rw [Nat.succ_mul]
                    have HPQ : Hid ((growTo (m : Int) li ki p).length + ki.length ≤ 400) := by unfold Hid; omega
                    have HVS := Lib.hid HVs
                    clear hmul hpr hpl2 hms HVs HPL
                    obtain ⟨lp, hlp⟩ : ∃ u, u = li[p] := ⟨_, rfl⟩
                    rw [← hlp] at v0 v1 v2 HVv HGS HH
                    clear hlp
                    have hlk : lp.ks.length ≤ 3 := by have := HH.out.2.2; omega
                    go_wp2_with fail
                    obtain ⟨w11, hw11⟩ : ∃ X, X = (wq.alloc (.cells #[.int .i64 lp.c, .int .i64 lp.n, .slice vA lp.ks.length vcap] 25)) := ⟨_, rfl⟩
                    have hb11 : Below wq.heap.size wq w11 := by rw [hw11]; exact (Below.refl _ _).alloc (Nat.le_refl _) _
                    have hK11 : Blk w11 wq.heap.size 25 #[.int .i64 lp.c, .int .i64 lp.n, .slice vA lp.ks.length vcap] := by rw [hw11]; exact Blk.new _ _ _
                    rw [← hw11]
                    clear hw11
                    have HB11 : Hid (Below w10.heap.size w10 w11) := HBM.out.trans (hb11.mono HBM.out.size)
                    have HM11 := Lib.hid (HM.out.below (fun x cs G hk h => VR_mono' _ _ x cs G hk h) hb11)
                    have HN11 : Hid (wq.heap.size ∉ rowOf (.slice mA (growTo (m : Int) li ki p).length mcap)) := fun h => Nat.lt_irrefl _ (HM.out.row _ h).2
                    have h10q : w10.heap.size ≤ wq.heap.size := HBM.out.size
                    have HK11 := Lib.hid hK11
                    obtain ⟨bb, hbb⟩ : ∃ X, X = wq.heap.size := ⟨_, rfl⟩
                    rw [← hbb] at HK11 HN11 h10q ⊢
                    clear hb11 hK11 HM HBM v0 v1 v2 hb8l hbb
                    generalize hgp : growTo (m : Int) li ki p = gp at *
                    clear hgp
                    go_wp2
                    go_loopw [16, 73] (fun mv sv wr => ∃ s : Nat, ∃ Fn : List Nat, s ≤ ki.length ∧ sv = .int .i64 s ∧ Hid (Own wr w10.heap.size 25 3 VR (moreTo gp (m : Int) lp ki s) mv Fn) ∧ Hid (∀ b ∈ Fn, w7.heap.size ≤ b) ∧ Hid (Below w10.heap.size w10 wr) ∧ Hid (Blk wr bb 25 #[.int .i64 lp.c, .int .i64 lp.n, .slice vA lp.ks.length vcap]) ∧ Hid (bb ∉ rowOf mv)) (fun _ sv _ => ki.length - (intOf sv).toNat)
                    case atStart => exact ⟨0, Fm, Nat.zero_le _, rfl, (by rw [moreTo_zero]; exact HM11.out), HFM.out, HB11.out, HK11.out, HN11.out⟩
                    case round =>
                      clear HM11 HFM HB11 HK11 HN11
                      obtain ⟨s, Fn, hs, rfl, HM, HFM, HBM, HK, HNB⟩ := hrel
                      obtain ⟨mA, mcap, hmv, -, -⟩ := HM.out.form
                      subst hmv
                      by_cases hsl : s < ki.length
                      · have hk400 := HKJ.out
                        have g7 : (0 : Int) ≤ (s : Int) := by omega
                        have g8 : (s : Int) < (ki.length : Int) := by omega
                        obtain ⟨b9, off9, rfl⟩ := HKA.out.ptr (by omega)
                        obtain ⟨nA, ncap, Gk, hb9l, n0, n1, n2, HVk, HKu, hks, -, -⟩ := ArrV.at HKA.out HKU.out HBM.out s hsl
                        have HKs := Lib.hid hks
                        have hml := moreTo_len gp (m : Int) lp ki s
                        have hpq := HPQ.out
                        have hmx : (moreTo gp (m : Int) lp ki s).length + 1 ≤ maxLen := by unfold maxLen; omega
                        have hby : ((moreTo gp (m : Int) lp ki s).length + 1) * 40 ≤ 140737488355328 := by omega
                        have HMS := Lib.hid (moreTo_succ gp (m : Int) lp ki s hsl)
                        obtain ⟨kq, hkq⟩ : ∃ u, u = ki[s] := ⟨_, rfl⟩
                        rw [← hkq] at n0 n1 n2 HVk HMS
                        clear hkq hks hml hpq
                        go_wp2_with fail
                        obtain ⟨w13, hw13⟩ : ∃ X, X = (wr.alloc (.cells #[.int .i64 kq.c, .int .i64 kq.n, .slice nA kq.ks.length ncap] 25)) := ⟨_, rfl⟩
                        have hb13 : Below wr.heap.size wr w13 := by rw [hw13]; exact (Below.refl _ _).alloc (Nat.le_refl _) _
                        have hK13 : Blk w13 wr.heap.size 25 #[.int .i64 kq.c, .int .i64 kq.n, .slice nA kq.ks.length ncap] := by rw [hw13]; exact Blk.new _ _ _
                        rw [← hw13]
                        clear hw13
                        obtain ⟨b20, hb20⟩ : ∃ X, X = wr.heap.size := ⟨_, rfl⟩
                        rw [← hb20] at hK13 ⊢
                        have x0 : w13.cell? ⟨bb, 2, none⟩ = some (.slice vA lp.ks.length vcap) := ((HK.out.same (hb13.block _ HK.out.lt)).cell 2).trans (by simp)
                        have x1 : w13.cell? ⟨b20, 0, none⟩ = some (.int .i64 kq.c) := (hK13.cell 0).trans (by simp)
                        have x2 : w13.cell? ⟨b20, 1, none⟩ = some (.int .i64 kq.n) := (hK13.cell 1).trans (by simp)
                        have x3 : w13.cell? ⟨b20, 2, none⟩ = some (.slice nA kq.ks.length ncap) := (hK13.cell 2).trans (by simp)
                        have klt20 : b20 < w13.heap.size := hK13.lt
                        have kltb : bb < w13.heap.size := Nat.lt_of_lt_of_le HK.out.lt hb13.size
                        have HVk2 : Hid (∀ C, Below w13.heap.size w13 C → VR C kq [.int .i64 kq.c, .int .i64 kq.n, .slice nA kq.ks.length ncap] Gk) := fun C hC => HVk.out.below (HBM.out.trans ((hb13.trans (hC.mono hb13.size)).mono HBM.out.size)) HKu.out
                        have HVA : Hid (∀ C, Below w13.heap.size w13 C → Arr C (VR C) lp.ks (.slice vA lp.ks.length vcap) Gv) := fun C hC => by
                          obtain ⟨kv, e, h⟩ := (VR_iff _ _ _).1 HVv.out
                          simp only [List.cons.injEq, true_and, and_true] at e
                          subst e
                          exact ArrV.below h (HBM.out.trans ((hb13.trans (hC.mono hb13.size)).mono HBM.out.size)) HVu.out
                        have HB20 := Lib.hid hb20
                        clear n0 n1 n2 hb9l hK13 HVk hb20
                        have HS : Hid (∀ C : World, Below w13.heap.size w13 C → (C.cell? ⟨bb, 2, none⟩ = some (.slice vA lp.ks.length vcap) ∧ C.cell? ⟨b20, 0, none⟩ = some (.int .i64 kq.c) ∧ C.cell? ⟨b20, 1, none⟩ = some (.int .i64 kq.n) ∧ C.cell? ⟨b20, 2, none⟩ = some (.slice nA kq.ks.length ncap))) := fun C hb => ⟨(hb.cell (kltb)).trans x0, (hb.cell (klt20)).trans x1, (hb.cell (klt20)).trans x2, (hb.cell (klt20)).trans x3⟩
                        have hC0 : Below w13.heap.size w13 w13.drew := (Below.refl _ _).drew
                        refine wp_region_B (S := fun w' => w'.cell? ⟨bb, 2, none⟩ = some (.slice vA lp.ks.length vcap) ∧ w'.cell? ⟨b20, 0, none⟩ = some (.int .i64 kq.c) ∧ w'.cell? ⟨b20, 1, none⟩ = some (.int .i64 kq.n) ∧ w'.cell? ⟨b20, 2, none⟩ = some (.slice nA kq.ks.length ncap)) (T := fun _ => True) (d := 99) (by kernel_rfl) ?_
                        obtain ⟨wd, hwd⟩ : ∃ X, X = w13.drew := ⟨_, rfl⟩
                        rw [← hwd] at hC0  ⊢
                        clear hwd
                        have hS0 := HS.out _ hC0
                        have hT0 : True := trivial
                        refine wpAnyB_take (i := 0) (v := ?_) rfl (by decide) (by kernel_rfl) (by kernel_rfl) (by kernel_rfl) (fun _ _ _ h => h) (Or.inl ⟨by rfl, ?hy0⟩) hS0 (fun _ => hT0) ?_
                        case hy0 => (intro W hSw; (try dsimp only at hSw); (try obtain ⟨hSw0, hSw1, hSw2, hSw3⟩ := hSw); go_simp; try with_reducible rfl)
                        (try simp only [Act.put, List.getElem_toArray, List.getElem_cons_zero, List.getElem_cons_succ, List.setIfInBounds_toArray, List.set_cons_zero, List.set_cons_succ])
                        refine wpAnyB_take (i := 1) (v := ?_) rfl (by decide) (by kernel_rfl) (by kernel_rfl) (by kernel_rfl) (fun _ _ _ h => h) (Or.inl ⟨by rfl, ?hy1⟩) hS0 (fun _ => hT0) ?_
                        case hy1 => (intro W hSw; (try dsimp only at hSw); (try obtain ⟨hSw0, hSw1, hSw2, hSw3⟩ := hSw); go_simp; try with_reducible rfl)
                        (try simp only [Act.put, List.getElem_toArray, List.getElem_cons_zero, List.getElem_cons_succ, List.setIfInBounds_toArray, List.set_cons_zero, List.set_cons_succ])
                        refine wpAnyB_take (i := 2) (v := ?_) rfl (by decide) (by kernel_rfl) (by kernel_rfl) (by kernel_rfl) (fun _ _ _ h => h) (Or.inl ⟨by rfl, ?hy2⟩) hS0 (fun _ => hT0) ?_
                        case hy2 => (intro W hSw; (try dsimp only at hSw); (try obtain ⟨hSw0, hSw1, hSw2, hSw3⟩ := hSw); go_simp; try with_reducible rfl)
                        (try simp only [Act.put, List.getElem_toArray, List.getElem_cons_zero, List.getElem_cons_succ, List.setIfInBounds_toArray, List.set_cons_zero, List.set_cons_succ])
                        refine wpAnyB_take (i := 3) (v := ?_) rfl (by decide) (by kernel_rfl) (by kernel_rfl) (by kernel_rfl) (fun _ _ _ h => h) (Or.inl ⟨by rfl, ?hy3⟩) hS0 (fun _ => hT0) ?_
                        case hy3 => (intro W hSw; (try dsimp only at hSw); (try obtain ⟨hSw0, hSw1, hSw2, hSw3⟩ := hSw); go_simp; try with_reducible rfl)
                        (try simp only [Act.put, List.getElem_toArray, List.getElem_cons_zero, List.getElem_cons_succ, List.setIfInBounds_toArray, List.set_cons_zero, List.set_cons_succ])
                        refine wpAnyB_take (i := 5) (v := ?_) rfl (by decide) (by kernel_rfl) (by kernel_rfl) (by kernel_rfl) (fun _ _ _ h => h) (Or.inl ⟨by rfl, ?hy5⟩) hS0 (fun _ => hT0) ?_
                        case hy5 => (intro W hSw; (try dsimp only at hSw); (try obtain ⟨hSw0, hSw1, hSw2, hSw3⟩ := hSw); go_simp; try with_reducible rfl)
                        (try simp only [Act.put, List.getElem_toArray, List.getElem_cons_zero, List.getElem_cons_succ, List.setIfInBounds_toArray, List.set_cons_zero, List.set_cons_succ])
                        refine wpAnyB_ready (rs := [4, 6]) (by kernel_rfl) (by simp) ?_
                        refine AllReadyB.cons rfl (fun K hK => ?_) (AllReadyB.cons rfl (fun K hK => ?_) AllReadyB.nil)
                        · go_simp
                          go_at_call 106
                          refine (Clone_V lp.ks (by omega) wd _ Gv (HVA.out wd hC0) (HVu.out.mono (Nat.le_trans HBM.out.size (Nat.le_trans hb13.size hC0.size)))).mono ?_
                          rintro e C1 ⟨cv, Gc, rfl, hb1, ho1, hG1⟩
                          have hC1 : Below w13.heap.size w13 C1 := hC0.trans (hb1.mono hC0.size)
                          obtain ⟨cA, ccap, rfl, -, -⟩ := ho1.form
                          have HGc := Lib.hid hG1
                          have HOc1 := Lib.hid (ho1.base (B' := w13.heap.size) (fun g hg => Nat.le_trans hC0.size (ho1.row g hg).1))
                          clear ho1 hG1
                          (try dsimp only)
                          refine hK.out _ _ (HS.out _ hC1) (fun _ => trivial) ?_
                          clear hK K
                          (try simp only [Act.put, List.getElem_toArray, List.getElem_cons_zero, List.getElem_cons_succ, List.setIfInBounds_toArray, List.set_cons_zero, List.set_cons_succ])
                          refine wpAnyB_ready (rs := [6]) (by kernel_rfl) (by simp) ?_
                          refine AllReadyB.cons rfl (fun K hK => ?_) AllReadyB.nil
                          go_simp
                          obtain ⟨C2, hX⟩ : ∃ X, X = C1.alloc (.cells [.int .i64 kq.c, .int .i64 kq.n, .slice nA kq.ks.length ncap].toArray 25) := ⟨_, rfl⟩
                          have hb2 : Below C1.heap.size C1 C2 := by rw [hX]; exact (Below.refl _ _).alloc (Nat.le_refl _) _
                          have hkb2 : Blk C2 C1.heap.size 25 [.int .i64 kq.c, .int .i64 kq.n, .slice nA kq.ks.length ncap].toArray := by rw [hX]; exact Blk.new _ _ _
                          have hX2 := hX
                          simp only [List.toArray] at hX2
                          first | rw [← hX] | rw [← hX2]
                          clear hX hX2
                          have hC2 : Below w13.heap.size w13 C2 := hC1.trans (hb2.mono hC1.size)
                          have HKb2 := Lib.hid hkb2
                          obtain ⟨kb, hkb⟩ : ∃ X, X = C1.heap.size := ⟨_, rfl⟩
                          rw [← hkb] at HKb2 ⊢
                          clear hkb hkb2
                          have HOc := Lib.hid (HOc1.out.below (fun x cs G hk h => VR_mono' _ _ x cs G hk h) hb2)
                          have HKb := HKb2
                          (try dsimp only)
                          refine hK.out _ _ (HS.out _ hC2) (fun _ => trivial) ?_
                          clear hK K
                          (try simp only [Act.put, List.getElem_toArray, List.getElem_cons_zero, List.getElem_cons_succ, List.setIfInBounds_toArray, List.set_cons_zero, List.set_cons_succ])
                          refine wpAnyB_ready (rs := [7]) (by kernel_rfl) (by simp) ?_
                          refine AllReadyB.cons rfl (fun K hK => ?_) AllReadyB.nil
                          refine step_pushB (P := Try.prog) rfl _ _ 23 rfl i0 _ 40 Try.underlying23 HI.out HZ0.out HZ1.out HZ2.out rfl (by decide) VR_len' VR_mono' (by rfl) HOc.out kq 25 [.int .i64 kq.c, .int .i64 kq.n, .slice nA kq.ks.length ncap] Gk kb (by rfl) HKb.out (by simp [Value.oneCell']) (HVk2.out C2 hC2) (HKu.out.mono (Nat.le_trans HBM.out.size (Nat.le_trans hb13.size hC2.size))) (fun g hg hgG => Nat.lt_irrefl _ (Nat.lt_of_lt_of_le (HKu.out g hgG) (Nat.le_trans (Nat.le_trans HBM.out.size hb13.size) (HOc.out.row g hg).1))) (by unfold maxLen; omega) (by omega) hC2.size ?_
                          intro g7 cp7 C3 hown3 hgr3 hat3
                          have hC3 : Below w13.heap.size w13 C3 := hC2.grown hgr3 hC2.size (fun g hg => (HOc.out.row g (mem_rowOf.2 hg)).1)
                          have HO3 := Lib.hid hown3
                          have H3R : Hid (∀ g ∈ rowOf (.slice (some ⟨g7, 0, none⟩) (lp.ks.length + 1) cp7), w13.heap.size ≤ g ∧ g < C3.heap.size) := fun g hg => HO3.out.row g hg
                          have HYR : Hid (VR C3 ⟨(m : Int), 0, lp.ks ++ [kq]⟩ [.int .i64 (m : Int), .int .i64 0, .slice (some ⟨g7, 0, none⟩) (lp.ks.length + 1) cp7] (rowOf (.slice (some ⟨g7, 0, none⟩) (lp.ks.length + 1) cp7) ++ (Gc ++ Gk))) := by
                            have h := HO3.out.arr
                            rw [if_neg (by simp)] at h
                            rw [show lp.ks.length + 1 = (lp.ks ++ [kq]).length by simp] at h ⊢
                            exact (VR_iff _ _ _).2 ⟨_, rfl, h⟩
                          have hb103 : Below w10.heap.size w10 C3 := (HBM.out.trans (hb13.mono HBM.out.size)).trans (hC3.mono (Nat.le_trans HBM.out.size hb13.size))
                          have hbr3 : Below wr.heap.size wr C3 := hb13.trans (hC3.mono hb13.size)
                          have HM3 := Lib.hid (HM.out.below (fun x cs G hk h => VR_mono' _ _ x cs G hk h) hbr3)
                          have hYU : Under C3.heap.size (rowOf (.slice (some ⟨g7, 0, none⟩) (lp.ks.length + 1) cp7) ++ (Gc ++ Gk)) := fun b hb => by
                            rcases List.mem_append.1 hb with hb | hb
                            · exact (H3R.out b hb).2
                            · rcases List.mem_append.1 hb with hb | hb
                              · exact Nat.lt_of_lt_of_le (HVu.out b (HGc.out b hb)) hb103.size
                              · exact Nat.lt_of_lt_of_le (HKu.out b hb) hb103.size
                          have hYN : ∀ g ∈ rowOf (.slice mA (moreTo gp (m : Int) lp ki s).length mcap), g ∉ (rowOf (.slice (some ⟨g7, 0, none⟩) (lp.ks.length + 1) cp7) ++ (Gc ++ Gk)) := fun g hg hgG => by
                            have h1 := HM.out.row g hg
                            have h2 := hb13.size
                            rcases List.mem_append.1 hgG with hb | hb
                            · have := (H3R.out g hb).1; omega
                            · rcases List.mem_append.1 hb with hb | hb
                              · have := HVu.out g (HGc.out g hb); omega
                              · have := HKu.out g hb; omega
                          have HY7 : Hid (∀ b ∈ (rowOf (.slice (some ⟨g7, 0, none⟩) (lp.ks.length + 1) cp7) ++ (Gc ++ Gk)), w7.heap.size ≤ b) := fun b hb => by
                            have h2 := hb13.size
                            have h3 := HBM.out.size
                            rcases List.mem_append.1 hb with hb | hb
                            · have := (H3R.out b hb).1; omega
                            · rcases List.mem_append.1 hb with hb | hb
                              · exact HLL.out b (HVS.out b (HGc.out b hb))
                              · exact HKL.out b (HKs.out b hb)
                          have HYN := Lib.hid hYN
                          have HYU := Lib.hid hYU
                          clear hown3 hgr3 hat3 hYN hYU
                          (try dsimp only)
                          refine hK.out _ _ (HS.out _ hC3) (fun _ => trivial) ?_
                          clear hK K
                          (try simp only [Act.put, List.getElem_toArray, List.getElem_cons_zero, List.getElem_cons_succ, List.setIfInBounds_toArray, List.set_cons_zero, List.set_cons_succ])
                          have hS3 := HS.out _ hC3
                          refine wpAnyB_take (i := 8) (v := ?_) rfl (by decide) (by kernel_rfl) (by kernel_rfl) (by kernel_rfl) (fun _ _ _ h => h) (Or.inl ⟨by rfl, ?hy8⟩) hS3 (fun _ => hT0) ?_
                          case hy8 => (intro W hSw; (try dsimp only at hSw); (try obtain ⟨hSw0, hSw1, hSw2, hSw3⟩ := hSw); go_simp; try with_reducible rfl)
                          (try simp only [Act.put, List.getElem_toArray, List.getElem_cons_zero, List.getElem_cons_succ, List.setIfInBounds_toArray, List.set_cons_zero, List.set_cons_succ])
                          refine wpAnyB_ready (rs := [9]) (by kernel_rfl) (by simp) ?_
                          refine AllReadyB.cons rfl (fun K hK => ?_) AllReadyB.nil
                          go_simp
                          (try dsimp only)
                          refine hK.out _ _ (HS.out _ (hC3.alloc hC3.size _)) (fun _ => trivial) ?_
                          clear hK K
                          (try simp only [Act.put, List.getElem_toArray, List.getElem_cons_zero, List.getElem_cons_succ, List.setIfInBounds_toArray, List.set_cons_zero, List.set_cons_succ])
                          refine wpAnyB_ready (rs := [10]) (by kernel_rfl) (by simp) ?_
                          refine AllReadyB.cons rfl (fun K hK => ?_) AllReadyB.nil
                          refine step_push1 (P := Try.prog) rfl _ _ 23 rfl i0 _ 40 Try.underlying23 HI.out HZ0.out HZ1.out HZ2.out rfl (by decide) VR_len' VR_mono' (by rfl) HM3.out ⟨(m : Int), 0, lp.ks ++ [kq]⟩ 25 [.int .i64 (m : Int), .int .i64 0, .slice (some ⟨g7, 0, none⟩) (lp.ks.length + 1) cp7] (rowOf (.slice (some ⟨g7, 0, none⟩) (lp.ks.length + 1) cp7) ++ (Gc ++ Gk)) C3.heap.size (by rfl) rfl (by simp [Value.oneCell']) HYR.out HYU.out HYN.out hmx hby hb103.size ?_
                          intro g10 cp10 C5 hown5 hgr5 hat5
                          have hrow := HM3.out.row
                          have hB5 : Below w10.heap.size w10 C5 := (hb103.alloc hb103.size _).grown hgr5 (by simp; have := hb103.size; omega) (fun g hg => (hrow g (mem_rowOf.2 hg)).1)
                          have l7 : C3.heap.size ≤ (C3.alloc (.cells [.int .i64 (m : Int), .int .i64 0, .slice (some ⟨g7, 0, none⟩) (lp.ks.length + 1) cp7].toArray 25)).heap.size := by rw [World.size_alloc]; exact Nat.le_succ _
                          have hfar : ∀ p : Addr, p.block < C3.heap.size → some p.block ≠ (Value.ownBlock (.slice mA (moreTo gp (m : Int) lp ki s).length mcap)) → C5.cell? p = C3.cell? p := fun p h1 h2 => (World.grownBy.cell_far hgr5 p (Nat.lt_of_lt_of_le h1 l7) h2).trans (World.cell?_alloc_lt _ _ _ h1)
                          have nbb : some bb ≠ (Value.ownBlock (.slice mA (moreTo gp (m : Int) lp ki s).length mcap)) := fun e => HNB.out (mem_rowOf.2 e.symm)
                          have nb20 : some b20 ≠ (Value.ownBlock (.slice mA (moreTo gp (m : Int) lp ki s).length mcap)) := fun e => by have := (HM.out.row b20 (mem_rowOf.2 e.symm)).2; have := HB20.out; omega
                          have lbb : bb < C3.heap.size := Nat.lt_of_lt_of_le kltb hC3.size
                          have lb20 : b20 < C3.heap.size := Nat.lt_of_lt_of_le klt20 hC3.size
                          have hS5 : C5.cell? ⟨bb, 2, none⟩ = some (.slice vA lp.ks.length vcap) ∧ C5.cell? ⟨b20, 0, none⟩ = some (.int .i64 kq.c) ∧ C5.cell? ⟨b20, 1, none⟩ = some (.int .i64 kq.n) ∧ C5.cell? ⟨b20, 2, none⟩ = some (.slice nA kq.ks.length ncap) := ⟨(hfar ⟨bb, 2, none⟩ lbb nbb).trans hS3.1, (hfar ⟨b20, 0, none⟩ lb20 nb20).trans hS3.2.1, (hfar ⟨b20, 1, none⟩ lb20 nb20).trans hS3.2.2.1, (hfar ⟨b20, 2, none⟩ lb20 nb20).trans hS3.2.2.2⟩
                          have HK5 : Hid (Blk C5 bb 25 #[.int .i64 lp.c, .int .i64 lp.n, .slice vA lp.ks.length vcap]) := (((HK.out.same (hbr3.block _ HK.out.lt)).same (Below.heap_alloc _ _ _ lbb))).same (hgr5.block _ (Nat.lt_of_lt_of_le lbb l7) nbb)
                          have HN5 : Hid (bb ∉ rowOf (.slice (some ⟨g10, 0, none⟩) ((moreTo gp (m : Int) lp ki s).length + 1) cp10)) := fun h => by
                            rw [rowOf_some, List.mem_singleton] at h
                            rcases hat5 with h1 | h1
                            · exact nbb (by rw [h1, h])
                            · omega
                          have HF5 : Hid (∀ b ∈ Fn ++ (rowOf (.slice (some ⟨g7, 0, none⟩) (lp.ks.length + 1) cp7) ++ (Gc ++ Gk)), w7.heap.size ≤ b) := fun b hb => by
                            rcases List.mem_append.1 hb with hb | hb
                            · exact HFM.out b hb
                            · exact HY7.out b hb
                          have HO5 := Lib.hid hown5
                          clear hown5 hgr5 hat5 hrow hfar nbb nb20
                          (try dsimp only)
                          refine hK.out _ _ (hS5) (fun _ => trivial) ?_
                          clear hK K
                          (try simp only [Act.put, List.getElem_toArray, List.getElem_cons_zero, List.getElem_cons_succ, List.setIfInBounds_toArray, List.set_cons_zero, List.set_cons_succ])
                          refine wpAnyB_take (i := 11) (v := ?_) rfl (by decide) (by kernel_rfl) (by kernel_rfl) (by kernel_rfl) (fun _ _ _ h => h) (Or.inl ⟨by rfl, ?hy11⟩) hS5 (fun _ => hT0) ?_
                          case hy11 => (intro W hSw; (try dsimp only at hSw); (try obtain ⟨hSw0, hSw1, hSw2, hSw3⟩ := hSw); go_simp; try with_reducible rfl)
                          (try simp only [Act.put, List.getElem_toArray, List.getElem_cons_zero, List.getElem_cons_succ, List.setIfInBounds_toArray, List.set_cons_zero, List.set_cons_succ])
                          refine wpAnyB_end (by kernel_rfl) ?_
                          clear hS3 hS5 hS0 hT0 x0 x1 x2 x3
                          go_wp2
                          go_roundw
                          case rel => exact ⟨s + 1, _, hsl, by go_num, (by rw [HMS.out]; exact HO5.out), HF5.out, hB5, HK5.out, HN5.out⟩
                          case measure => (simp [intOf] <;> omega)
                        · go_simp
                          obtain ⟨C1, hX⟩ : ∃ X, X = wd.alloc (.cells [.int .i64 kq.c, .int .i64 kq.n, .slice nA kq.ks.length ncap].toArray 25) := ⟨_, rfl⟩
                          have hb1 : Below wd.heap.size wd C1 := by rw [hX]; exact (Below.refl _ _).alloc (Nat.le_refl _) _
                          have hkb1 : Blk C1 wd.heap.size 25 [.int .i64 kq.c, .int .i64 kq.n, .slice nA kq.ks.length ncap].toArray := by rw [hX]; exact Blk.new _ _ _
                          have hX2 := hX
                          simp only [List.toArray] at hX2
                          first | rw [← hX] | rw [← hX2]
                          clear hX hX2
                          have hC1 : Below w13.heap.size w13 C1 := hC0.trans (hb1.mono hC0.size)
                          have HKb1 := Lib.hid hkb1
                          obtain ⟨kb, hkb⟩ : ∃ X, X = wd.heap.size := ⟨_, rfl⟩
                          rw [← hkb] at HKb1 ⊢
                          clear hkb hkb1
                          (try dsimp only)
                          refine hK.out _ _ (HS.out _ hC1) (fun _ => trivial) ?_
                          clear hK K
                          (try simp only [Act.put, List.getElem_toArray, List.getElem_cons_zero, List.getElem_cons_succ, List.setIfInBounds_toArray, List.set_cons_zero, List.set_cons_succ])
                          refine wpAnyB_ready (rs := [4]) (by kernel_rfl) (by simp) ?_
                          refine AllReadyB.cons rfl (fun K hK => ?_) AllReadyB.nil
                          go_simp
                          go_at_call 106
                          refine (Clone_V lp.ks (by omega) C1 _ Gv (HVA.out C1 hC1) (HVu.out.mono (Nat.le_trans HBM.out.size (Nat.le_trans hb13.size hC1.size)))).mono ?_
                          rintro e C2 ⟨cv, Gc, rfl, hb2, ho2, hG2⟩
                          have hC2 : Below w13.heap.size w13 C2 := hC1.trans (hb2.mono hC1.size)
                          obtain ⟨cA, ccap, rfl, -, -⟩ := ho2.form
                          have HGc := Lib.hid hG2
                          have HOc2 := Lib.hid (ho2.base (B' := w13.heap.size) (fun g hg => Nat.le_trans hC1.size (ho2.row g hg).1))
                          clear ho2 hG2
                          have HOc := HOc2
                          have HKb := Lib.hid (HKb1.out.same (hb2.block _ HKb1.out.lt))
                          (try dsimp only)
                          refine hK.out _ _ (HS.out _ hC2) (fun _ => trivial) ?_
                          clear hK K
                          (try simp only [Act.put, List.getElem_toArray, List.getElem_cons_zero, List.getElem_cons_succ, List.setIfInBounds_toArray, List.set_cons_zero, List.set_cons_succ])
                          refine wpAnyB_ready (rs := [7]) (by kernel_rfl) (by simp) ?_
                          refine AllReadyB.cons rfl (fun K hK => ?_) AllReadyB.nil
                          refine step_pushB (P := Try.prog) rfl _ _ 23 rfl i0 _ 40 Try.underlying23 HI.out HZ0.out HZ1.out HZ2.out rfl (by decide) VR_len' VR_mono' (by rfl) HOc.out kq 25 [.int .i64 kq.c, .int .i64 kq.n, .slice nA kq.ks.length ncap] Gk kb (by rfl) HKb.out (by simp [Value.oneCell']) (HVk2.out C2 hC2) (HKu.out.mono (Nat.le_trans HBM.out.size (Nat.le_trans hb13.size hC2.size))) (fun g hg hgG => Nat.lt_irrefl _ (Nat.lt_of_lt_of_le (HKu.out g hgG) (Nat.le_trans (Nat.le_trans HBM.out.size hb13.size) (HOc.out.row g hg).1))) (by unfold maxLen; omega) (by omega) hC2.size ?_
                          intro g7 cp7 C3 hown3 hgr3 hat3
                          have hC3 : Below w13.heap.size w13 C3 := hC2.grown hgr3 hC2.size (fun g hg => (HOc.out.row g (mem_rowOf.2 hg)).1)
                          have HO3 := Lib.hid hown3
                          have H3R : Hid (∀ g ∈ rowOf (.slice (some ⟨g7, 0, none⟩) (lp.ks.length + 1) cp7), w13.heap.size ≤ g ∧ g < C3.heap.size) := fun g hg => HO3.out.row g hg
                          have HYR : Hid (VR C3 ⟨(m : Int), 0, lp.ks ++ [kq]⟩ [.int .i64 (m : Int), .int .i64 0, .slice (some ⟨g7, 0, none⟩) (lp.ks.length + 1) cp7] (rowOf (.slice (some ⟨g7, 0, none⟩) (lp.ks.length + 1) cp7) ++ (Gc ++ Gk))) := by
                            have h := HO3.out.arr
                            rw [if_neg (by simp)] at h
                            rw [show lp.ks.length + 1 = (lp.ks ++ [kq]).length by simp] at h ⊢
                            exact (VR_iff _ _ _).2 ⟨_, rfl, h⟩
                          have hb103 : Below w10.heap.size w10 C3 := (HBM.out.trans (hb13.mono HBM.out.size)).trans (hC3.mono (Nat.le_trans HBM.out.size hb13.size))
                          have hbr3 : Below wr.heap.size wr C3 := hb13.trans (hC3.mono hb13.size)
                          have HM3 := Lib.hid (HM.out.below (fun x cs G hk h => VR_mono' _ _ x cs G hk h) hbr3)
                          have hYU : Under C3.heap.size (rowOf (.slice (some ⟨g7, 0, none⟩) (lp.ks.length + 1) cp7) ++ (Gc ++ Gk)) := fun b hb => by
                            rcases List.mem_append.1 hb with hb | hb
                            · exact (H3R.out b hb).2
                            · rcases List.mem_append.1 hb with hb | hb
                              · exact Nat.lt_of_lt_of_le (HVu.out b (HGc.out b hb)) hb103.size
                              · exact Nat.lt_of_lt_of_le (HKu.out b hb) hb103.size
                          have hYN : ∀ g ∈ rowOf (.slice mA (moreTo gp (m : Int) lp ki s).length mcap), g ∉ (rowOf (.slice (some ⟨g7, 0, none⟩) (lp.ks.length + 1) cp7) ++ (Gc ++ Gk)) := fun g hg hgG => by
                            have h1 := HM.out.row g hg
                            have h2 := hb13.size
                            rcases List.mem_append.1 hgG with hb | hb
                            · have := (H3R.out g hb).1; omega
                            · rcases List.mem_append.1 hb with hb | hb
                              · have := HVu.out g (HGc.out g hb); omega
                              · have := HKu.out g hb; omega
                          have HY7 : Hid (∀ b ∈ (rowOf (.slice (some ⟨g7, 0, none⟩) (lp.ks.length + 1) cp7) ++ (Gc ++ Gk)), w7.heap.size ≤ b) := fun b hb => by
                            have h2 := hb13.size
                            have h3 := HBM.out.size
                            rcases List.mem_append.1 hb with hb | hb
                            · have := (H3R.out b hb).1; omega
                            · rcases List.mem_append.1 hb with hb | hb
                              · exact HLL.out b (HVS.out b (HGc.out b hb))
                              · exact HKL.out b (HKs.out b hb)
                          have HYN := Lib.hid hYN
                          have HYU := Lib.hid hYU
                          clear hown3 hgr3 hat3 hYN hYU
                          (try dsimp only)
                          refine hK.out _ _ (HS.out _ hC3) (fun _ => trivial) ?_
                          clear hK K
                          (try simp only [Act.put, List.getElem_toArray, List.getElem_cons_zero, List.getElem_cons_succ, List.setIfInBounds_toArray, List.set_cons_zero, List.set_cons_succ])
                          have hS3 := HS.out _ hC3
                          refine wpAnyB_take (i := 8) (v := ?_) rfl (by decide) (by kernel_rfl) (by kernel_rfl) (by kernel_rfl) (fun _ _ _ h => h) (Or.inl ⟨by rfl, ?hy8⟩) hS3 (fun _ => hT0) ?_
                          case hy8 => (intro W hSw; (try dsimp only at hSw); (try obtain ⟨hSw0, hSw1, hSw2, hSw3⟩ := hSw); go_simp; try with_reducible rfl)
                          (try simp only [Act.put, List.getElem_toArray, List.getElem_cons_zero, List.getElem_cons_succ, List.setIfInBounds_toArray, List.set_cons_zero, List.set_cons_succ])
                          refine wpAnyB_ready (rs := [9]) (by kernel_rfl) (by simp) ?_
                          refine AllReadyB.cons rfl (fun K hK => ?_) AllReadyB.nil
                          go_simp
                          (try dsimp only)
                          refine hK.out _ _ (HS.out _ (hC3.alloc hC3.size _)) (fun _ => trivial) ?_
                          clear hK K
                          (try simp only [Act.put, List.getElem_toArray, List.getElem_cons_zero, List.getElem_cons_succ, List.setIfInBounds_toArray, List.set_cons_zero, List.set_cons_succ])
                          refine wpAnyB_ready (rs := [10]) (by kernel_rfl) (by simp) ?_
                          refine AllReadyB.cons rfl (fun K hK => ?_) AllReadyB.nil
                          refine step_push1 (P := Try.prog) rfl _ _ 23 rfl i0 _ 40 Try.underlying23 HI.out HZ0.out HZ1.out HZ2.out rfl (by decide) VR_len' VR_mono' (by rfl) HM3.out ⟨(m : Int), 0, lp.ks ++ [kq]⟩ 25 [.int .i64 (m : Int), .int .i64 0, .slice (some ⟨g7, 0, none⟩) (lp.ks.length + 1) cp7] (rowOf (.slice (some ⟨g7, 0, none⟩) (lp.ks.length + 1) cp7) ++ (Gc ++ Gk)) C3.heap.size (by rfl) rfl (by simp [Value.oneCell']) HYR.out HYU.out HYN.out hmx hby hb103.size ?_
                          intro g10 cp10 C5 hown5 hgr5 hat5
                          have hrow := HM3.out.row
                          have hB5 : Below w10.heap.size w10 C5 := (hb103.alloc hb103.size _).grown hgr5 (by simp; have := hb103.size; omega) (fun g hg => (hrow g (mem_rowOf.2 hg)).1)
                          have l7 : C3.heap.size ≤ (C3.alloc (.cells [.int .i64 (m : Int), .int .i64 0, .slice (some ⟨g7, 0, none⟩) (lp.ks.length + 1) cp7].toArray 25)).heap.size := by rw [World.size_alloc]; exact Nat.le_succ _
                          have hfar : ∀ p : Addr, p.block < C3.heap.size → some p.block ≠ (Value.ownBlock (.slice mA (moreTo gp (m : Int) lp ki s).length mcap)) → C5.cell? p = C3.cell? p := fun p h1 h2 => (World.grownBy.cell_far hgr5 p (Nat.lt_of_lt_of_le h1 l7) h2).trans (World.cell?_alloc_lt _ _ _ h1)
                          have nbb : some bb ≠ (Value.ownBlock (.slice mA (moreTo gp (m : Int) lp ki s).length mcap)) := fun e => HNB.out (mem_rowOf.2 e.symm)
                          have nb20 : some b20 ≠ (Value.ownBlock (.slice mA (moreTo gp (m : Int) lp ki s).length mcap)) := fun e => by have := (HM.out.row b20 (mem_rowOf.2 e.symm)).2; have := HB20.out; omega
                          have lbb : bb < C3.heap.size := Nat.lt_of_lt_of_le kltb hC3.size
                          have lb20 : b20 < C3.heap.size := Nat.lt_of_lt_of_le klt20 hC3.size
                          have hS5 : C5.cell? ⟨bb, 2, none⟩ = some (.slice vA lp.ks.length vcap) ∧ C5.cell? ⟨b20, 0, none⟩ = some (.int .i64 kq.c) ∧ C5.cell? ⟨b20, 1, none⟩ = some (.int .i64 kq.n) ∧ C5.cell? ⟨b20, 2, none⟩ = some (.slice nA kq.ks.length ncap) := ⟨(hfar ⟨bb, 2, none⟩ lbb nbb).trans hS3.1, (hfar ⟨b20, 0, none⟩ lb20 nb20).trans hS3.2.1, (hfar ⟨b20, 1, none⟩ lb20 nb20).trans hS3.2.2.1, (hfar ⟨b20, 2, none⟩ lb20 nb20).trans hS3.2.2.2⟩
                          have HK5 : Hid (Blk C5 bb 25 #[.int .i64 lp.c, .int .i64 lp.n, .slice vA lp.ks.length vcap]) := (((HK.out.same (hbr3.block _ HK.out.lt)).same (Below.heap_alloc _ _ _ lbb))).same (hgr5.block _ (Nat.lt_of_lt_of_le lbb l7) nbb)
                          have HN5 : Hid (bb ∉ rowOf (.slice (some ⟨g10, 0, none⟩) ((moreTo gp (m : Int) lp ki s).length + 1) cp10)) := fun h => by
                            rw [rowOf_some, List.mem_singleton] at h
                            rcases hat5 with h1 | h1
                            · exact nbb (by rw [h1, h])
                            · omega
                          have HF5 : Hid (∀ b ∈ Fn ++ (rowOf (.slice (some ⟨g7, 0, none⟩) (lp.ks.length + 1) cp7) ++ (Gc ++ Gk)), w7.heap.size ≤ b) := fun b hb => by
                            rcases List.mem_append.1 hb with hb | hb
                            · exact HFM.out b hb
                            · exact HY7.out b hb
                          have HO5 := Lib.hid hown5
                          clear hown5 hgr5 hat5 hrow hfar nbb nb20
                          (try dsimp only)
                          refine hK.out _ _ (hS5) (fun _ => trivial) ?_
                          clear hK K
                          (try simp only [Act.put, List.getElem_toArray, List.getElem_cons_zero, List.getElem_cons_succ, List.setIfInBounds_toArray, List.set_cons_zero, List.set_cons_succ])
                          refine wpAnyB_take (i := 11) (v := ?_) rfl (by decide) (by kernel_rfl) (by kernel_rfl) (by kernel_rfl) (fun _ _ _ h => h) (Or.inl ⟨by rfl, ?hy11⟩) hS5 (fun _ => hT0) ?_
                          case hy11 => (intro W hSw; (try dsimp only at hSw); (try obtain ⟨hSw0, hSw1, hSw2, hSw3⟩ := hSw); go_simp; try with_reducible rfl)
                          (try simp only [Act.put, List.getElem_toArray, List.getElem_cons_zero, List.getElem_cons_succ, List.setIfInBounds_toArray, List.set_cons_zero, List.set_cons_succ])
                          refine wpAnyB_end (by kernel_rfl) ?_
                          clear hS3 hS5 hS0 hT0 x0 x1 x2 x3
                          go_wp2
                          go_roundw
                          case rel => exact ⟨s + 1, _, hsl, by go_num, (by rw [HMS.out]; exact HO5.out), HF5.out, hB5, HK5.out, HN5.out⟩
                          case measure => (simp [intOf] <;> omega)
                      · have hs2 : s = ki.length := by omega
                        subst hs2
                        have HOM : Hid (Own wr w10.heap.size 25 3 VR (growTo (m : Int) li ki (p + 1)) (.slice mA (moreTo gp (m : Int) lp ki ki.length).length mcap) Fn) := by rw [HGS.out, ← moreTo_all gp (m : Int) lp ki (Nat.le_refl _)]; exact HM.out
                        go_wp2
                        go_roundw
                        case rel => exact ⟨p + 1, Fn, hpl, by go_num, HOM.out, HFM.out, HBM.out⟩
                        case measure => (simp [intOf] <;> omega)
                  · have hp2 : p = li.length := by omega
                    subst hp2
                    have hga := growTo_all (m : Int) li ki (Nat.le_refl _)
                    have HOM : Hid (Arr wq (VR wq) (argTo xs d (m : Int) ls (j + 1)) (.slice mA (growTo (m : Int) li ki li.length).length mcap) (if growTo (m : Int) li ki li.length = [] then [] else rowOf (.slice mA (growTo (m : Int) li ki li.length).length mcap) ++ Fm)) := by rw [HSU.out, ← hga]; exact HM.out.arr
                    have HUM : Hid (Under wq.heap.size (if growTo (m : Int) li ki li.length = [] then [] else rowOf (.slice mA (growTo (m : Int) li ki li.length).length mcap) ++ Fm)) := HM.out.under_arr
                    have HLM : Hid (∀ b ∈ (if growTo (m : Int) li ki li.length = [] then [] else rowOf (.slice mA (growTo (m : Int) li ki li.length).length mcap) ++ Fm), w7.heap.size ≤ b) := (fun b hb => ((HM.out.fresh (w0 := w7) h710 HFM.out) b hb).1)
                    have HB8b : Hid (Below w8.heap.size w8 wq) := HB8a.out.trans (HBM.out.mono HB8a.out.size)
                    clear hga
                    go_wp2
                    go_roundw
                    case rel => exact ⟨j + 1, _, hjl, by go_num, HOM.out, HUM.out, HLM.out, HB8b⟩
                    case measure => (simp [intOf] <;> omega)
              · have hj2 : j = ls.length := by omega
                subst hj2
                have hbl0 := HBF.out.all
                have HLB : Hid (Arr wp (VR wp) bl (.slice lA bl.length lcap) Fl) := by
                  have h := HL.out
                  rw [hbl0] at h
                  exact h
                have HOp := Lib.hid (HO8.out.below (fun x cs G hk h => VR_mono' _ _ x cs G hk h) HB8.out)
                have HB3p : Hid (Below w3.heap.size w3 wp) := HB38.out.trans (HB8.out.mono HB38.out.size)
                rw [hbl0]
                clear hbl0
                have hrn : ∀ g ∈ rowOf (.slice oA (valsTo xs d (⟨(q : Int), (r : Int)⟩ : Ty) i).length ocap), g ∉ Fl := fun g hg hgF => Nat.lt_irrefl _ (Nat.lt_of_lt_of_le (H7R.out g hg) (HLL.out g hgF))
                obtain ⟨v', w', G, hr, ho, hG, hgr, hat⟩ := run_append_all (P := Try.prog) 23 23 i0 _ 40 Try.underlying23 HI.out HZ0.out HZ1.out HZ2.out rfl (by decide) VR_len' VR_mono' VR_one HOp.out HLB.out HLU.out hrn (by omega) (by omega) HB3p.out.size
                have HB3n : Hid (Below w3.heap.size w3 w') := HB3p.out.grown hgr HB3p.out.size (fun g hg => (HOp.out.row g (mem_rowOf.2 hg)).1)
                rw [← HST.out] at ho
                have HON := Lib.hid ho
                have HFn : Hid (∀ b ∈ Fo ++ G, w.heap.size ≤ b) := fun b hb => by
                  rcases List.mem_append.1 hb with hb | hb
                  · exact HFo.out b hb
                  · exact Nat.le_trans h7w (HLL.out b (hG b hb))
                have HRUN := Lib.hid hr
                clear hr ho hG hgr hat hrn
                go_wp2_with (at_builtin; refine Halt.mk ?_)
                refine Halt.of (wpList_append_run rfl _ _ 23 rfl (by rfl) (by rfl) HRUN.out ?_)
                go_wp2
                go_roundw
                case rel => exact ⟨i + 1, _, hil, by go_num, HON.out, HFn.out, HB3n⟩
                case measure => (simp [intOf] <;> omega)
        · have HALL := Lib.hid (valsTo_all (xs := xs) (d := d) (t := (⟨(q : Int), (r : Int)⟩ : Ty)) HDN.out (i := i) (Nat.le_of_not_lt hil))
          have HFin : Hid (ValsP (valsL xs (d + 1) (⟨(q : Int), (r : Int)⟩ : Ty)) w (.returned (.slice oA (valsTo xs d (⟨(q : Int), (r : Int)⟩ : Ty) i).length ocap)) wo) := by rw [← HALL.out]; exact HO.out.vals hB hB3.size HFo.out
          go_wp2
          go_ret
          exact HFin.out
end Go.Proofs.Ytgckkiencmickaa

namespace Go.Proofs.Ytgckkiencmickaa
open Go.RowKit

set_option maxRecDepth 100000 in
set_option maxHeartbeats 1600000 in
theorem impl_ownValue_of (v : V) (ih : ∀ k ∈ v.ks, CopyV 61 k) : CopyV 61 v := by
  intro w cs G hv hg hz
  obtain ⟨kv, rfl, ha⟩ := (VR_iff _ _ _).1 hv
  obtain ⟨A4, cap4, rfl, hc3, hc4⟩ := ha.form
  obtain ⟨i0, hi, hz0, hz1, hz2⟩ := info_parts info_VE
  have IH := Lib.hid ih
  have HI := Lib.hid hi
  have HZ0 := Lib.hid hz0
  have HZ1 := Lib.hid hz1
  have HZ2 := Lib.hid hz2
  have HA := Lib.hid ha
  have HG := Lib.hid hg
  clear hi hz0 hz1 hz2 ha hg
  have hzk : V.sizes v.ks ≤ 1048576 := by obtain ⟨c, n, ks⟩ := v; exact hz
  have hkl : v.ks.length ≤ 1048576 := by rw [V.sizes_eq] at hzk; omega
  have HZ := Lib.hid hzk
  clear ih hv hz hzk
  have hB0 : Below w.heap.size w (((w.alloc (.cells #[.int .i64 v.c, .int .i64 v.n, .slice A4 v.ks.length cap4] 25)).alloc (.cells #[.int .i64 0, .int .i64 0, .slice none 0 0] 25)).alloc (.cells #[.int .i64 v.c, .int .i64 v.n, .slice none 0 0] 25)) := (((Below.refl _ _).alloc (Nat.le_refl _) _).alloc (by simp) _).alloc (by simp; omega) _
  have K0 : Hid (Blk (((w.alloc (.cells #[.int .i64 v.c, .int .i64 v.n, .slice A4 v.ks.length cap4] 25)).alloc (.cells #[.int .i64 0, .int .i64 0, .slice none 0 0] 25)).alloc (.cells #[.int .i64 v.c, .int .i64 v.n, .slice none 0 0] 25)) (w.heap.size + 2) 25 #[.int .i64 v.c, .int .i64 v.n, .slice none 0 0]) := by
    have h := Blk.new ((w.alloc (.cells #[.int .i64 v.c, .int .i64 v.n, .slice A4 v.ks.length cap4] 25)).alloc (.cells #[.int .i64 0, .int .i64 0, .slice none 0 0] 25)) 25 #[.int .i64 v.c, .int .i64 v.n, .slice none 0 0]
    rw [show ((w.alloc (.cells #[.int .i64 v.c, .int .i64 v.n, .slice A4 v.ks.length cap4] 25)).alloc (.cells #[.int .i64 0, .int .i64 0, .slice none 0 0] 25)).heap.size = w.heap.size + 2 from by simp] at h
    exact h
  have R0 : Hid (Blk (((w.alloc (.cells #[.int .i64 v.c, .int .i64 v.n, .slice A4 v.ks.length cap4] 25)).alloc (.cells #[.int .i64 0, .int .i64 0, .slice none 0 0] 25)).alloc (.cells #[.int .i64 v.c, .int .i64 v.n, .slice none 0 0] 25)) (w.heap.size + 1) 25 #[.int .i64 0, .int .i64 0, .slice none 0 0]) := by
    have h := Blk.new (w.alloc (.cells #[.int .i64 v.c, .int .i64 v.n, .slice A4 v.ks.length cap4] 25)) 25 #[.int .i64 0, .int .i64 0, .slice none 0 0]
    rw [World.size_alloc] at h
    exact h.same (Below.heap_alloc _ _ _ (by simp))
  have V0 : Hid (Blk (((w.alloc (.cells #[.int .i64 v.c, .int .i64 v.n, .slice A4 v.ks.length cap4] 25)).alloc (.cells #[.int .i64 0, .int .i64 0, .slice none 0 0] 25)).alloc (.cells #[.int .i64 v.c, .int .i64 v.n, .slice none 0 0] 25)) w.heap.size 25 #[.int .i64 v.c, .int .i64 v.n, .slice A4 v.ks.length cap4]) := ((Blk.new w _ _).same (Below.heap_alloc _ _ _ (by simp))).same (Below.heap_alloc _ _ _ (by simp; omega))
  have hs0 : (((w.alloc (.cells #[.int .i64 v.c, .int .i64 v.n, .slice A4 v.ks.length cap4] 25)).alloc (.cells #[.int .i64 0, .int .i64 0, .slice none 0 0] 25)).alloc (.cells #[.int .i64 v.c, .int .i64 v.n, .slice none 0 0] 25)).heap.size = w.heap.size + 2 + 1 := by simp
  go_enter Try.func61, Try.ntmps61
  go_wp2_with fail
  obtain ⟨w9, hw9⟩ : ∃ w9, w9 = (((w.alloc (.cells #[.int .i64 v.c, .int .i64 v.n, .slice A4 v.ks.length cap4] 25)).alloc (.cells #[.int .i64 0, .int .i64 0, .slice none 0 0] 25)).alloc (.cells #[.int .i64 v.c, .int .i64 v.n, .slice none 0 0] 25)) := ⟨_, rfl⟩
  rw [← hw9] at hB0 K0 V0 R0 hs0 ⊢
  clear hw9
  have y2 : w9.cell? ⟨w.heap.size, 2, none⟩ = some (.slice A4 v.ks.length cap4) := (V0.out.cell 2).trans (by simp)
  have vlt : w.heap.size < w9.heap.size := V0.out.lt
  go_wp2
  clear y2 vlt
  go_loopw [14] (fun iv wr => ∃ i : Nat, ∃ kv : Value, ∃ Fk : List Nat, i ≤ v.ks.length ∧ iv = .int .i64 i ∧ Hid (Blk wr (w.heap.size + 2) 25 #[.int .i64 v.c, .int .i64 v.n, kv]) ∧ Hid (Own wr (w.heap.size + 2 + 1) 25 3 VR (kidTo v.ks i) kv Fk) ∧ Hid (Free wr Fk) ∧ Hid (∀ b ∈ Fk, w.heap.size + 2 + 1 ≤ b) ∧ Hid (Chg [w.heap.size + 2] w9 wr) ∧ Below w.heap.size w wr ∧ w9.heap.size ≤ wr.heap.size) (fun iv _ => v.ks.length - (intOf iv).toNat)
  case atStart => exact ⟨0, _, [], Nat.zero_le _, rfl, K0, (show Own _ _ _ _ _ (kidTo v.ks 0) _ _ from Own.nil _ _ _ _ _), Free.nil _, (fun b hb => by cases hb), Chg.refl _ _, hB0, Nat.le_refl _⟩
  case round =>
    clear hB0 K0
    obtain ⟨i, kv, Fk, hi, rfl, KD, HO, HFk, HFh, HC, hB, hws⟩ := hrel
    obtain ⟨kA, kcap, hkv, hkc1, hkc2⟩ := HO.out.form
    subst hkv
    have klt := KD.out.lt
    by_cases hil : i < v.ks.length
    · obtain ⟨b4, off4, rfl⟩ := HA.out.ptr (by omega)
      have hb4w : b4 < w.heap.size := by obtain ⟨_, _, _, _, e, hb, -⟩ := HA.out.get VR_len hil; cases e; exact HG.out _ hb
      obtain ⟨A7, cap7, G7, hb7, k0, k1, k2, HV7, HG7, -, -, -⟩ := ArrV.at HA.out HG.out hB i hil
      have g1 : (0 : Int) ≤ (i : Int) := by omega
      have g2 : (i : Int) < (v.ks.length : Int) := by omega
      have hkk := kidTo_len v.ks i
      have HKS : Hid (v.ks[i].size ≤ 1048576) := by have h1 := V.sizes_mem2 v.ks i hil; have h2 := HZ.out; unfold Hid; omega
      have hmx : (kidTo v.ks i).length + 1 ≤ maxLen := by unfold maxLen; omega
      have hby : ((kidTo v.ks i).length + 1) * 40 ≤ 140737488355328 := by omega
      go_wp2_with fail
      obtain ⟨wk, hwk⟩ : ∃ wk, wk = wr.alloc (.cells #[.int .i64 v.ks[i].c, .int .i64 v.ks[i].n, .slice A7 v.ks[i].ks.length cap7] 25) := ⟨_, rfl⟩
      have hBk : Below wr.heap.size wr wk := by rw [hwk]; exact (Below.refl _ _).alloc (Nat.le_refl _) _
      have KK : Blk wk wr.heap.size 25 #[.int .i64 v.ks[i].c, .int .i64 v.ks[i].n, .slice A7 v.ks[i].ks.length cap7] := by rw [hwk]; exact Blk.new _ _ _
      have hwks : wk.heap.size = wr.heap.size + 1 := by rw [hwk]; simp
      rw [← hwk]
      clear hwk
      have z0 : wk.cell? ⟨wr.heap.size, 0, none⟩ = some (.int .i64 v.ks[i].c) := (KK.cell 0).trans (by simp)
      have z1 : wk.cell? ⟨wr.heap.size, 1, none⟩ = some (.int .i64 v.ks[i].n) := (KK.cell 1).trans (by simp)
      have z2 : wk.cell? ⟨wr.heap.size, 2, none⟩ = some (.slice A7 v.ks[i].ks.length cap7) := (KK.cell 2).trans (by simp)
      have KDk := KD.out.same (hBk.block _ KD.out.lt)
      have zT : wk.drew.cell? ⟨w.heap.size + 2, 2, none⟩ = some (.slice kA (kidTo v.ks i).length kcap) := (KDk.cell 2).trans (by simp)
      have zfT : wk.drew.frozen? ⟨w.heap.size + 2, 2, none⟩ = false := KDk.frozen 2
      have kklt : wr.heap.size < wk.drew.heap.size := KK.lt
      have hkT : w.heap.size + 2 < wk.drew.heap.size := KDk.lt
      clear KK KDk k0 k1 k2
      have HBk := Lib.hid hBk.drew
      clear hBk
      have HCALL := Lib.hid (IH.out v.ks[i] (List.getElem_mem hil) wk.drew _ G7 ((HV7.out.below hB HG7.out).below HBk.out (HG7.out.mono hB.size)) (HG7.out.mono (Nat.le_trans hB.size HBk.out.size)) HKS.out)
      refine wp_region_B (S := fun w' => w'.cell? ⟨wr.heap.size, 0, none⟩ = some (.int .i64 v.ks[i].c) ∧ w'.cell? ⟨wr.heap.size, 1, none⟩ = some (.int .i64 v.ks[i].n) ∧ w'.cell? ⟨wr.heap.size, 2, none⟩ = some (.slice A7 v.ks[i].ks.length cap7)) (T := fun w' => w'.cell? ⟨w.heap.size + 2, 2, none⟩ = some (.slice kA (kidTo v.ks i).length kcap)) (d := 5) (by kernel_rfl) ?_
      have hS1 : wk.drew.cell? ⟨wr.heap.size, 0, none⟩ = some (.int .i64 v.ks[i].c) ∧ wk.drew.cell? ⟨wr.heap.size, 1, none⟩ = some (.int .i64 v.ks[i].n) ∧ wk.drew.cell? ⟨wr.heap.size, 2, none⟩ = some (.slice A7 v.ks[i].ks.length cap7) := ⟨z0, z1, z2⟩
      have hT1 : wk.drew.cell? ⟨w.heap.size + 2, 2, none⟩ = some (.slice kA (kidTo v.ks i).length kcap) := zT
      refine wpAnyB_take (i := 0) (v := ?_) rfl (by decide) (by kernel_rfl) (by kernel_rfl) (by kernel_rfl) (fun _ _ _ h => h) (Or.inl ⟨by rfl, ?hy0⟩) hS1 (fun _ => hT1) ?_
      case hy0 => (intro W hSw; (try dsimp only at hSw); (obtain ⟨s0, s1, s2⟩ := hSw); go_simp; try with_reducible rfl)
      (try simp only [Act.put, List.setIfInBounds_toArray, List.set_cons_zero, List.set_cons_succ])
      refine wpAnyB_takeB (i := 1) (v := ?_) rfl (by decide) rfl (by kernel_rfl) (by kernel_rfl) (by kernel_rfl) (by kernel_rfl) (fun _ _ _ h => h) (Or.inl ⟨by rfl, ?hy1⟩) (by rfl) hS1 hT1 ?_
      case hy1 => (intro W hSw; (try dsimp only at hSw); (obtain ⟨⟨s0, s1, s2⟩, tT⟩ := hSw); go_simp; try with_reducible rfl)
      (try simp only [Act.put, List.setIfInBounds_toArray, List.set_cons_zero, List.set_cons_succ])
      refine wpAnyB_take (i := 2) (v := ?_) rfl (by decide) (by kernel_rfl) (by kernel_rfl) (by kernel_rfl) (fun _ _ _ h => h) (Or.inl ⟨by rfl, ?hy2⟩) hS1 (fun _ => hT1) ?_
      case hy2 => (intro W hSw; (try dsimp only at hSw); (obtain ⟨s0, s1, s2⟩ := hSw); go_simp; try with_reducible rfl)
      (try simp only [Act.put, List.setIfInBounds_toArray, List.set_cons_zero, List.set_cons_succ])
      refine wpAnyB_ready (rs := [3]) (by kernel_rfl) (by simp) ?_
      refine AllReadyB.cons rfl (fun K hK => ?_) AllReadyB.nil
      go_simp
      go_at_call 61
      with_reducible refine HCALL.out.mono ?_
      rintro e wA ⟨csA, FA, rfl, hbA, hpA, hfrA, hfsA⟩
      obtain ⟨kvA, rfl, haA⟩ := (VR_iff _ _ _).1 hpA
      obtain ⟨A8, cap8, rfl, -, -⟩ := haA.form
      clear haA
      have HBu := Lib.hid (HBk.out.trans (hbA.mono HBk.out.size))
      have HPA := Lib.hid hpA
      have HFrA := Lib.hid hfrA
      have HFsA : Hid (∀ b ∈ FA, wr.heap.size ≤ b ∧ b < wA.heap.size) := fun b hb => ⟨Nat.le_trans HBk.out.size (hfsA b hb).1, (hfsA b hb).2⟩
      have HOA : Hid (Own wA (w.heap.size + 2 + 1) 25 3 VR (kidTo v.ks i) (.slice kA (kidTo v.ks i).length kcap) Fk) := HO.out.below (fun x cs G hk h => VR_mono' _ _ x cs G hk h) HBu.out
      have hbs : w.heap.size + 2 + 1 ≤ wA.heap.size := by have := HBu.out.size; omega
      have hSA : wA.cell? ⟨wr.heap.size, 0, none⟩ = some (.int .i64 v.ks[i].c) ∧ wA.cell? ⟨wr.heap.size, 1, none⟩ = some (.int .i64 v.ks[i].n) ∧ wA.cell? ⟨wr.heap.size, 2, none⟩ = some (.slice A7 v.ks[i].ks.length cap7) := ⟨(hbA.cell (p := ⟨wr.heap.size, 0, none⟩) kklt).trans z0, (hbA.cell (p := ⟨wr.heap.size, 1, none⟩) kklt).trans z1, (hbA.cell (p := ⟨wr.heap.size, 2, none⟩) kklt).trans z2⟩
      have zA : wA.cell? ⟨w.heap.size + 2, 2, none⟩ = some (.slice kA (kidTo v.ks i).length kcap) := (hbA.cell (p := ⟨w.heap.size + 2, 2, none⟩) hkT).trans zT
      have zfA : wA.frozen? ⟨w.heap.size + 2, 2, none⟩ = false := (hbA.frozen hkT).trans zfT
      have hkA : w.heap.size + 2 < wA.heap.size := Nat.lt_of_lt_of_le hkT hbA.size
      have kl0 : wr.heap.size < wA.heap.size := Nat.lt_of_lt_of_le kklt hbA.size
      have kl1 : wr.heap.size < wA.heap.size := Nat.lt_of_lt_of_le kklt hbA.size
      have kl2 : wr.heap.size < wA.heap.size := Nat.lt_of_lt_of_le kklt hbA.size
      have hSB : (wA.alloc (.cells [.int .i64 v.ks[i].c, .int .i64 v.ks[i].n, .slice A8 v.ks[i].ks.length cap8].toArray 25)).cell? ⟨wr.heap.size, 0, none⟩ = some (.int .i64 v.ks[i].c) ∧ (wA.alloc (.cells [.int .i64 v.ks[i].c, .int .i64 v.ks[i].n, .slice A8 v.ks[i].ks.length cap8].toArray 25)).cell? ⟨wr.heap.size, 1, none⟩ = some (.int .i64 v.ks[i].n) ∧ (wA.alloc (.cells [.int .i64 v.ks[i].c, .int .i64 v.ks[i].n, .slice A8 v.ks[i].ks.length cap8].toArray 25)).cell? ⟨wr.heap.size, 2, none⟩ = some (.slice A7 v.ks[i].ks.length cap7) := ⟨(World.cell?_alloc_lt _ _ _ kl0).trans hSA.1, (World.cell?_alloc_lt _ _ _ kl1).trans hSA.2.1, (World.cell?_alloc_lt _ _ _ kl2).trans hSA.2.2⟩
      dsimp only
      refine hK.out _ _ hSA (fun _ => zA) ?_
      clear hK K
      (try simp only [Act.put, List.setIfInBounds_toArray, List.set_cons_zero, List.set_cons_succ])
      refine wpAnyB_ready (rs := [4]) (by kernel_rfl) (by simp) ?_
      refine AllReadyB.cons rfl (fun K hK => ?_) AllReadyB.nil
      go_simp
      refine hK.out _ _ hSB (fun _ => (World.cell?_alloc_lt _ _ _ hkA).trans zA) ?_
      clear hK K
      (try simp only [Act.put, List.setIfInBounds_toArray, List.set_cons_zero, List.set_cons_succ])
      refine wpAnyB_ready (rs := [5]) (by kernel_rfl) (by simp) ?_
      refine AllReadyB.cons rfl (fun K hK => ?_) AllReadyB.nil
      refine step_push1 (P := Try.prog) rfl _ _ 23 rfl i0 _ 40 Try.underlying23 HI.out HZ0.out HZ1.out HZ2.out rfl (by decide) VR_len' VR_mono' (by rfl) HOA.out v.ks[i] 25 [.int .i64 v.ks[i].c, .int .i64 v.ks[i].n, .slice A8 v.ks[i].ks.length cap8] FA wA.heap.size (by rfl) rfl (by simp [Value.oneCell']) HPA.out (fun b hb => (HFsA.out b hb).2) (fun g hg hG => Nat.lt_irrefl _ (Nat.lt_of_lt_of_le (HO.out.row g hg).2 (HFsA.out g hG).1)) hmx hby hbs ?_
      intro g cp w7 hown7 hgr7 hat7
      have hrow7 := HOA.out.row
      have n7 : ∀ x, (x < w.heap.size + 2 + 1 ∨ wr.heap.size ≤ x) → some x ≠ (Value.ownBlock (.slice kA (kidTo v.ks i).length kcap)) := fun x hx e => by
        have h1 := (hrow7 x (mem_rowOf.2 e.symm)).1
        have h2 := (HO.out.row x (mem_rowOf.2 e.symm)).2
        omega
      have l7 : wA.heap.size ≤ (wA.alloc (.cells [.int .i64 v.ks[i].c, .int .i64 v.ks[i].n, .slice A8 v.ks[i].ks.length cap8].toArray 25)).heap.size := by rw [World.size_alloc]; exact Nat.le_succ _
      have s7 : w7.cell? ⟨wr.heap.size, 0, none⟩ = some (.int .i64 v.ks[i].c) ∧ w7.cell? ⟨wr.heap.size, 1, none⟩ = some (.int .i64 v.ks[i].n) ∧ w7.cell? ⟨wr.heap.size, 2, none⟩ = some (.slice A7 v.ks[i].ks.length cap7) := ⟨(World.grownBy.cell_far hgr7 ⟨wr.heap.size, 0, none⟩ (Nat.lt_of_lt_of_le kl0 l7) (n7 (wr.heap.size) (by omega))).trans hSB.1, (World.grownBy.cell_far hgr7 ⟨wr.heap.size, 1, none⟩ (Nat.lt_of_lt_of_le kl1 l7) (n7 (wr.heap.size) (by omega))).trans hSB.2.1, (World.grownBy.cell_far hgr7 ⟨wr.heap.size, 2, none⟩ (Nat.lt_of_lt_of_le kl2 l7) (n7 (wr.heap.size) (by omega))).trans hSB.2.2⟩
      have z71 : w7.cell? ⟨w.heap.size + 2, 2, none⟩ = some (.slice kA (kidTo v.ks i).length kcap) := (World.grownBy.cell_far hgr7 ⟨w.heap.size + 2, 2, none⟩ (Nat.lt_of_lt_of_le hkA l7) (n7 (w.heap.size + 2) (by omega))).trans ((World.cell?_alloc_lt _ _ _ hkA).trans zA)
      have zf71 : w7.frozen? ⟨w.heap.size + 2, 2, none⟩ = false := (World.grownBy.frozen_far hgr7 ⟨w.heap.size + 2, 2, none⟩ (Nat.lt_of_lt_of_le hkA l7) (n7 (w.heap.size + 2) (by omega))).trans (Eq.trans (World.frozen?_of_block (Below.heap_alloc _ _ _ hkA)) zfA)
      refine hK.out _ _ s7 (fun h => by cases h) ?_
      clear hK K
      (try simp only [Act.put, List.setIfInBounds_toArray, List.set_cons_zero, List.set_cons_succ])
      refine wpAnyB_take (i := 6) (v := ?_) rfl (by decide) (by kernel_rfl) (by kernel_rfl) (by kernel_rfl) (fun _ _ _ h => h) (Or.inl ⟨by rfl, ?hy6⟩) s7 (fun h => by cases h) ?_
      case hy6 => (intro W hSw; (try dsimp only at hSw); (obtain ⟨s0, s1, s2⟩ := hSw); go_simp; try with_reducible rfl)
      (try simp only [Act.put, List.setIfInBounds_toArray, List.set_cons_zero, List.set_cons_succ])
      refine wpAnyB_ready (rs := [7]) (by kernel_rfl) (by simp) ?_
      refine AllReadyB.cons rfl (fun K hK => ?_) AllReadyB.nil
      go_simp
      refine hK.out _ _ ⟨(World.cell?_setCell_far _ _ _ _ (by show w.heap.size + 2 ≠ wr.heap.size; omega)).trans s7.1, (World.cell?_setCell_far _ _ _ _ (by show w.heap.size + 2 ≠ wr.heap.size; omega)).trans s7.2.1, (World.cell?_setCell_far _ _ _ _ (by show w.heap.size + 2 ≠ wr.heap.size; omega)).trans s7.2.2⟩ (fun h => by cases h) ?_
      clear hK K
      (try simp only [Act.put, List.setIfInBounds_toArray, List.set_cons_zero, List.set_cons_succ])
      refine wpAnyB_end (by kernel_rfl) ?_
      have HF2 := Lib.hid (kidTo_succ v.ks i hil)
      obtain ⟨r1, r2, r3, r4, r5, r6, r7⟩ := kid_round 2 VR_mono' hs0 KD.out HO.out HFk.out HFh.out HC.out hB (by omega) (Nat.le_refl _) HBu.out HFrA.out HFsA.out hown7 hgr7
      have R1 := Lib.hid r1
      have R2 := Lib.hid r2
      have R3 := Lib.hid r3
      have R4 := Lib.hid r4
      have R5 := Lib.hid r5
      have R6 := Lib.hid r6
      clear r1 r2 r3 r4 r5 r6 hown7 hgr7 hat7 hrow7 n7 l7 s7 z71 zf71 hSA zA zfA hkA hSB hS1 hT1 zT zfT hkT HCALL
      go_wp2
      go_roundw
      case rel => exact ⟨i + 1, _, _, hil, by go_num, R1, by rw [HF2.out]; exact R2.out, R3, R4, R5, R6.out, r7⟩
      case measure => (simp [intOf] <;> omega)
    · have HO2 := HO.out
      rw [kidTo_all v.ks (by omega)] at HO2
      have hln := congrArg List.length (kidTo_all v.ks (i := i) (by omega))
      obtain ⟨FF, hf1, hf2, hf3⟩ := kid_done (H := w.heap.size + 2 + 1) HO2 HFk.out HFh.out (Nat.le_refl _)
      have HF1 := Lib.hid hf1
      have HF2 := Lib.hid hf2
      have HF3 := Lib.hid hf3
      have e0 := (KD.out.cell 0).trans (show _ = some (.int .i64 v.c) from by simp)
      have e1 := (KD.out.cell 1).trans (show _ = some (.int .i64 v.n) from by simp)
      have e2 := (KD.out.cell 2).trans (show _ = some (.slice kA (kidTo v.ks i).length kcap) from by simp)
      have HLN := Lib.hid hln
      have RR := Lib.hid (R0.out.same (HC.out.block _ R0.out.lt (by simp)))
      have rlt := RR.out.lt
      have rc0 := (RR.out.cell 0).trans (show _ = some (.int .i64 0) from by simp)
      have rf0 := RR.out.frozen 0
      have rc1 := (RR.out.cell 1).trans (show _ = some (.int .i64 0) from by simp)
      have rf1 := RR.out.frozen 1
      have rc2 := (RR.out.cell 2).trans (show _ = some (.slice none 0 0) from by simp)
      have rf2 := RR.out.frozen 2
      clear hf1 hf2 hf3 HO2 hln
      go_wp2
      clear e0 e1 e2 rc0 rf0 rc1 rf1 rc2 rf2
      refine bodyPost_ret (results_cell_row rfl _ _ (w.heap.size + 1) 25 #[.int .i64 v.c, .int .i64 v.n, .slice kA (kidTo v.ks i).length kcap] (0, 0) _ rfl (RR.out.three _ _ _) Try.underlying25 rfl rfl) rfl ?_
      have hkp : Kept FF wr _ := kept_three (w := wr) (H := w.heap.size + 1) (fun b hb => by have := (HF3.out b hb).1; omega) (.int .i64 v.c) (.int .i64 v.n) (.slice kA (kidTo v.ks i).length kcap)
      refine ⟨[.int .i64 v.c, .int .i64 v.n, .slice kA (kidTo v.ks i).length kcap], FF, rfl, below_three hB (by omega) _ _ _, ?_, HF2.out.kept hkp, fun b hb => ⟨by have := (HF3.out b hb).1; omega, ?_⟩⟩
      · exact (VR_iff _ _ _).2 ⟨_, rfl, ArrV.mono (by rw [HLN.out]; exact HF1.out) hkp⟩
      · rw [size_three]; exact (HF3.out b hb).2
theorem impl_ownValue : ∀ v, CopyV 61 v := V.indv impl_ownValue_of
end Go.Proofs.Ytgckkiencmickaa
