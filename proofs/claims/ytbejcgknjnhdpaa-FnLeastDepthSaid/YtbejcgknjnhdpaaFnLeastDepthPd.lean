/-
  Lemmas and contracts of functions: Sweeps over a table of least depths reach a fixed point: as many as there are entries and one more are enough. Conditions: the world is valid. The constructors that can make values of a type, in plain Lean. Conditions: none. Least depths in plain Lean: the least depth of a type is that of a constructor; any index is no deeper than a given one. Conditions: the world is valid. l1Slot, l1Depth, l1Most of the reference: depths by a table. Conditions: the world is valid, the entries are small. depths.of and depths.ofCtor of the program. Conditions: the world is valid, the entries are small. l1Table of the reference. Conditions: the world is valid. depthsOf of the program. Conditions: the world is valid. LeastDepth and Inhabited of both. Conditions: none. Types of arguments in plain Lean: they are valid; what they keep of what the world says. Conditions: none. The least depth as the law reckons it, constructor by constructor. Conditions: none. ptInts at equal lists, ptIn. Conditions: none. What comes in as an argument (slices of structs, trees) lies in memory as the plain data say. Conditions: none. A slice of bytes that comes in as an argument lies in memory as the plain data say. Conditions: none.
-/
import Derived.Test.YtbejcgknjnhdpaaFnLeastDepthPc
import Derived.Test.YtbejcgknjnhdpaaFnLeastDepthPb
import Derived.Deep.RegionWith
import Derived.Deep.QuietTactic
import Derived.BigQuiet
import Derived.WalkLawsBesides
import Derived.Test.YtbejcgknjnhdpaaFnLeastDepthPa
import Derived.Deep.RegionHeld3
import Derived.Laws.OwnMore
import Derived.Deep.LoopGhost
import Derived.Test.YtbejcgknjnhdpaaChecked
import Derived.ProofKit
import Derived.ChangeArms
import Derived.Deep.Fields

set_option linter.unusedVariables false
set_option linter.unusedSimpArgs false

namespace Go.Proofs.Ytbejcgknjnhdpaa
open Go.RowKit
open Classical

/-- from level n on no further type gets a value -/
def Stable (xs : List Dt) (n : Nat) : Prop := ∀ s, s < xs.length * 4 → hasD xs (n + 1) (tyAt s) → hasD xs n (tyAt s)
theorem stable_step {xs : List Dt} (hw : WorldOK xs) {n : Nat} (hn : 1 ≤ n) (h : Stable xs n) : Stable xs (n + 1) := by
  intro s hs hh
  rcases hh with hh | ⟨k, hk, ha⟩
  · exact .inl hh
  · refine .inr ⟨k, hk, fun a hm => ?_⟩
    have hai := argsOf_in hw (tyAt_in hs) hk hm
    by_cases e : a.d = -1
    · obtain ⟨m, rfl⟩ : ∃ m, n = m + 1 := ⟨n - 1, by omega⟩
      exact .inl e
    · obtain ⟨q1, q2⟩ := hai.slot e
      have := h _ q1 (by rw [q2]; exact ha a hm)
      rwa [q2] at this
noncomputable def lvl (xs : List Dt) (n : Nat) : Nat := ((List.range (xs.length * 4)).filter fun s => decide (hasD xs n (tyAt s))).length
theorem filter_lt {p q : Nat → Bool} : ∀ (l : List Nat), (∀ x ∈ l, p x = true → q x = true) → (∃ x ∈ l, q x = true ∧ p x = false) → (l.filter p).length < (l.filter q).length
  | [], _, h => by obtain ⟨x, hx, -⟩ := h; cases hx
  | y :: l, h, ⟨x, hx, h1, h2⟩ => by
    have hle : ∀ l : List Nat, (∀ x ∈ l, p x = true → q x = true) → (l.filter p).length ≤ (l.filter q).length := by
      intro l
      induction l with
      | nil => intro _; exact Nat.le_refl _
      | cons z l ih =>
        intro hl
        have := ih fun x hx => hl x (by simp [hx])
        have hz := hl z (by simp)
        cases hp : p z with
        | true => rw [List.filter_cons_of_pos hp, List.filter_cons_of_pos (hz hp)]; simp only [List.length_cons]; omega
        | false =>
          rw [List.filter_cons_of_neg (by simp [hp])]
          cases hq : q z with
          | true => rw [List.filter_cons_of_pos hq]; simp only [List.length_cons]; omega
          | false => rw [List.filter_cons_of_neg (by simp [hq])]; exact this
    have hrest := hle l fun x hx => h x (by simp [hx])
    rcases List.mem_cons.1 hx with rfl | hx
    · rw [List.filter_cons_of_neg (by simp [h2]), List.filter_cons_of_pos h1]; simp only [List.length_cons]; omega
    · have ih := filter_lt l (fun x hx => h x (by simp [hx])) ⟨x, hx, h1, h2⟩
      have hy := h y (by simp)
      cases hp : p y with
      | true => rw [List.filter_cons_of_pos hp, List.filter_cons_of_pos (hy hp)]; simp only [List.length_cons]; omega
      | false =>
        rw [List.filter_cons_of_neg (by simp [hp])]
        cases hq : q y with
        | true => rw [List.filter_cons_of_pos hq]; simp only [List.length_cons]; omega
        | false => rw [List.filter_cons_of_neg (by simp [hq])]; exact ih
theorem lvl_lt {xs : List Dt} {n : Nat} (h : ¬ Stable xs n) : lvl xs n < lvl xs (n + 1) := by
  unfold Stable at h
  obtain ⟨s, h⟩ := Classical.not_forall.1 h
  obtain ⟨hs, h⟩ := Classical.not_imp.1 h
  obtain ⟨h1, h2⟩ := Classical.not_imp.1 h
  unfold lvl
  refine filter_lt _ (fun x _ hx => ?_) ⟨s, List.mem_range.2 hs, by simp [h1], by simp [h2]⟩
  simp only [decide_eq_true_eq] at hx ⊢
  exact hasD_mono hx
theorem lvl_le (xs : List Dt) (n : Nat) : lvl xs n ≤ xs.length * 4 := by
  unfold lvl
  exact Nat.le_trans (List.length_filter_le _ _) (by simp)
theorem stable_ex {xs : List Dt} : ∀ n, (∃ m, 1 ≤ m ∧ m ≤ n ∧ Stable xs m) ∨ n ≤ lvl xs (n + 1)
  | 0 => .inr (Nat.zero_le _)
  | n + 1 => by
    rcases stable_ex (xs := xs) n with ⟨m, h1, h2, h3⟩ | h
    · exact .inl ⟨m, h1, by omega, h3⟩
    · by_cases hs : Stable xs (n + 1)
      · exact .inl ⟨n + 1, by omega, Nat.le_refl _, hs⟩
      · have := lvl_lt hs
        exact .inr (by omega)
theorem stable_max {xs : List Dt} (hw : WorldOK xs) : Stable xs (xs.length * 4 + 1) := by
  rcases stable_ex (xs := xs) (xs.length * 4 + 1) with ⟨m, h1, h2, h3⟩ | h
  · have key : ∀ k, m ≤ k → Stable xs k := by
      intro k hk
      induction hk with
      | refl => exact h3
      | step hk ih => exact stable_step hw (Nat.le_trans h1 hk) ih
    exact key _ h2
  · have := lvl_le xs (xs.length * 4 + 1 + 1)
    omega
theorem hasD_max {xs : List Dt} (hw : WorldOK xs) {s : Nat} (hs : s < xs.length * 4) : ∀ {n : Nat}, hasD xs n (tyAt s) → hasD xs (xs.length * 4 + 1) (tyAt s) := by
  have hst : ∀ k, Stable xs (xs.length * 4 + 1 + k) := by
    intro k
    induction k with
    | zero => exact stable_max hw
    | succ k ih => exact stable_step hw (n := xs.length * 4 + 1 + k) (by omega) ih
  have down : ∀ k, hasD xs (xs.length * 4 + 1 + k) (tyAt s) → hasD xs (xs.length * 4 + 1) (tyAt s) := by
    intro k
    induction k with
    | zero => exact id
    | succ k ih => exact fun h => ih (hst k s hs h)
  intro n h
  exact down n (hasD_le h (by omega))

theorem list_ext {a b : List Int} (hl : a.length = b.length) (h : ∀ s, s < a.length → a.getD s 0 = b.getD s 0) : a = b := by
  refine List.ext_getElem hl fun s h1 h2 => ?_
  have := h s h1
  simpa [List.getD, List.getElem?_eq_getElem h1, List.getElem?_eq_getElem h2] using this
theorem tableL_fix {xs : List Dt} (hw : WorldOK xs) : sweep xs (tableL xs) = tableL xs := by
  refine list_ext (by show (sweeps xs (_ + 1)).length = (sweeps xs _).length; rw [sweeps_length, sweeps_length]) fun s hs => ?_
  have hs : s < xs.length * 4 := Nat.lt_of_lt_of_eq hs (sweeps_length xs (xs.length * 4 + 1 + 1))
  show (sweeps xs (xs.length * 4 + 1 + 1)).getD s 0 = (sweeps xs (xs.length * 4 + 1)).getD s 0
  have s1 := sound_sweeps hw (xs.length * 4 + 1)
  have s2 := sound_sweeps hw (xs.length * 4 + 1 + 1)
  have d1 := done_sweeps hw (xs.length * 4 + 1) s hs
  by_cases h0 : (sweeps xs (xs.length * 4 + 1)).getD s 0 = 0
  · by_cases h1 : (sweeps xs (xs.length * 4 + 1 + 1)).getD s 0 = 0
    · rw [h0, h1]
    · exact absurd h0 (d1 (hasD_max hw hs (s2.has s hs h1))).1
  · have l := le_sweeps (xs := xs) (xs.length * 4 + 1) s h0
    have hv := s2.has s hs l.1
    have hb := (d1 (hasD_max hw hs (s1.has s hs h0))).2
    have hp := s2.pos s
    have hd := done_sweeps hw _ s hs hv
    have hl := le_sweeps' (xs := xs) (n := ((sweeps xs (xs.length * 4 + 1 + 1)).getD s 0).toNat) (m := xs.length * 4 + 1) (by omega) s hd.1
    omega
theorem sweeps_from {xs : List Dt} {m : Nat} (h : sweep xs (sweeps xs m) = sweeps xs m) : ∀ k, sweeps xs (m + k) = sweeps xs m
  | 0 => rfl
  | k + 1 => by show sweep xs (sweeps xs (m + k)) = _; rw [sweeps_from h k, h]
/-- a fixed point that is reached is the table -/
theorem fix_table {xs : List Dt} (hw : WorldOK xs) {m : Nat} (h : sweep xs (sweeps xs m) = sweeps xs m) : sweeps xs m = tableL xs := by
  rcases Nat.le_total m (xs.length * 4 + 1) with hm | hm
  · obtain ⟨k, hk⟩ := Nat.exists_eq_add_of_le hm
    have := sweeps_from h k
    rw [← hk] at this
    exact this.symm
  · obtain ⟨k, hk⟩ := Nat.exists_eq_add_of_le hm
    rw [hk]
    exact sweeps_from (tableL_fix hw) k
theorem moved_le {xs : List Dt} (hw : WorldOK xs) {m : Nat} (h : sweep xs (sweeps xs m) ≠ sweeps xs m) : m ≤ xs.length * 4 := by
  rcases Nat.lt_or_ge (xs.length * 4) m with hm | hm
  · obtain ⟨k, hk⟩ := Nat.exists_eq_add_of_le (show xs.length * 4 + 1 ≤ m by omega)
    refine absurd ?_ h
    have e : sweeps xs m = tableL xs := by rw [hk]; exact sweeps_from (tableL_fix hw) k
    rw [e]; exact tableL_fix hw
  · exact hm

/-- a table differs from the one that a sweep began with -/
def movedB (t cur : List Int) : Bool := !(cur == t)
theorem movedB_refl (t : List Int) : movedB t t = false := by unfold movedB; simp
theorem movedB_put {t cur : List Int} (h : Le t cur) {s : Nat} (hs : s < cur.length) {n : Int} (hb : better cur s n = true) (hp : 0 ≤ cur.getD s 0) : movedB t (putIf cur s n) = true := by
  have hne : putIf cur s n ≠ t := fun e => by
    obtain ⟨h1, h2⟩ := better_iff.1 hb
    have hv : (putIf cur s n).getD s 0 = n := by
      unfold putIf
      rw [if_pos hb, getD_set _ _ _ _ hs, if_pos rfl]
    rw [e] at hv
    by_cases h0 : t.getD s 0 = 0
    · omega
    · have := h s h0
      omega
  unfold movedB
  simp [hne]
theorem movedB_not {cur : List Int} {s : Nat} {n : Int} (hb : better cur s n = false) : putIf cur s n = cur := by unfold putIf; rw [if_neg (by simp [hb])]
theorem putIf_yes {cur : List Int} {s : Nat} {n : Int} (hb : better cur s n = true) : putIf cur s n = cur.set s n := if_pos hb
theorem movedB_iff {t cur : List Int} : movedB t cur = false ↔ cur = t := by unfold movedB; simp
/-- what LeastDepth gives -/
def depthL (xs : List Dt) (t : Ty) : Int := if typeValidB xs t = true then depthIn (tableL xs) t else 0
end Go.Proofs.Ytbejcgknjnhdpaa

namespace Go.Proofs.Ytbejcgknjnhdpaa
open Go.RowKit

theorem fitTo_mem {cs : List Kt} {i : Int} {m k : Nat} (hm : m ≤ cs.length) : (k : Int) ∈ fitTo cs i m ↔ ∃ h : k < m, fitsB (cs[k]'(by omega)) i = true := by
  unfold fitTo
  rw [List.mem_map]
  constructor
  · rintro ⟨j, hj, e⟩
    have e : j = k := Int.ofNat.inj e
    subst e
    obtain ⟨h1, h2⟩ := List.mem_filter.1 hj
    have hjm : j < m := by simpa using h1
    refine ⟨hjm, ?_⟩
    unfold fitAt at h2
    rw [List.getElem?_eq_getElem (by omega)] at h2
    exact h2
  · rintro ⟨h, hf⟩
    refine ⟨k, List.mem_filter.2 ⟨by simpa using h, ?_⟩, rfl⟩
    unfold fitAt
    rw [List.getElem?_eq_getElem (by omega)]
    exact hf
theorem hasB_ctors {xs : List Dt} {d k : Nat} {i : Int} (hd : d < xs.length) (hk : k < xs[d].ctors.length) : hasB (ctorsL xs ⟨(d : Int), i⟩) (k : Int) = fitsB xs[d].ctors[k] i := by
  rw [Bool.eq_iff_iff, hasB_iff, ctorsL_data hd, fitTo_mem (Nat.le_refl _)]
  exact ⟨fun ⟨_, h⟩ => h, fun h => ⟨hk, h⟩⟩
/-- constructors with an index are among those with any -/
theorem ctorsL_any {xs : List Dt} {t : Ty} {n : Int} (ht : InWorld xs.length t) (h : n ∈ ctorsL xs t) : n ∈ ctorsL xs ⟨t.d, 0⟩ := by
  obtain ⟨d, k, h1, rfl, hd, hk⟩ := mem_ctorsL ht h
  obtain ⟨t1, t2⟩ := t
  simp only at h1
  subst h1
  rw [ctorsL_data hd, fitTo_mem (Nat.le_refl _)]
  refine ⟨hk, ?_⟩
  unfold fitsB
  simp
theorem fitTo_lt (cs : List Kt) (i : Int) : ∀ n, ∀ x ∈ fitTo cs i n, x < (n : Int) := by
  intro n x hx
  obtain ⟨k, rfl, hk⟩ := mem_fitTo hx
  omega
/-- they ascend -/
theorem fitTo_sorted (cs : List Kt) (i : Int) (n : Nat) (hn : n ≤ cs.length) : ∀ a (ha : a + 1 < (fitTo cs i n).length), (fitTo cs i n)[a] < (fitTo cs i n)[a + 1] := by
  induction n with
  | zero => intro a ha; simp [fitTo] at ha
  | succ n ih =>
    intro a ha
    have hs := fitTo_succ cs i n (by omega)
    cases hf : fitsB cs[n] i with
    | false =>
      rw [hf] at hs
      simp only [Bool.false_eq_true, if_false] at hs
      simp only [hs] at ha ⊢
      exact ih (by omega) a ha
    | true =>
      rw [hf] at hs
      simp only [if_true] at hs
      simp only [hs] at ha ⊢
      rw [List.length_append, List.length_singleton] at ha
      rcases Nat.lt_or_ge (a + 1) (fitTo cs i n).length with h | h
      · rw [List.getElem_append_left (by omega), List.getElem_append_left h]
        exact ih (by omega) a h
      · rw [List.getElem_append_left (by omega), List.getElem_append_right (by omega)]
        have := fitTo_lt cs i n _ (List.getElem_mem (show a < (fitTo cs i n).length by omega))
        simp only [show a + 1 - (fitTo cs i n).length = 0 by omega, List.getElem_cons_zero]
        omega
theorem ctorsL_sorted {xs : List Dt} {t : Ty} (ht : InWorld xs.length t) : ∀ a (ha : a + 1 < (ctorsL xs t).length), (ctorsL xs t)[a] < (ctorsL xs t)[a + 1] := by
  rcases ht with hd | ⟨d, hd, hdl⟩
  · intro a ha
    have := ctorsL_int (xs := xs) hd
    simp only [this] at ha
    simp at ha
  · obtain ⟨t1, t2⟩ := t
    simp only at hd
    subst hd
    have e := ctorsL_data (i := t2) hdl
    intro a ha
    simp only [e] at ha ⊢
    exact fitTo_sorted _ _ _ (Nat.le_refl _) a ha
end Go.Proofs.Ytbejcgknjnhdpaa

namespace Go.Proofs.Ytbejcgknjnhdpaa
open Go.RowKit

theorem tableL_done {xs : List Dt} (hw : WorldOK xs) (n : Nat) : Done xs (tableL xs) n := fun s hs h => by
  rcases Nat.le_total n (xs.length * 4 + 1) with hn | hn
  · exact (done_sweeps hw n).le (le_sweeps' hn) s hs h
  · have := done_sweeps hw (xs.length * 4 + 1) s hs (hasD_max hw hs h)
    exact ⟨this.1, by have h2 := this.2; show (sweeps xs (xs.length * 4 + 1)).getD s 0 ≤ (n : Int); omega⟩
theorem depthIn_done {xs : List Dt} (hw : WorldOK xs) {a : Ty} (ha : TyIn xs.length a) {n : Nat} (h : hasD xs n a) : depthIn (tableL xs) a ≠ 0 ∧ depthIn (tableL xs) a ≤ n := by
  have hn : 1 ≤ n := by
    cases n with
    | zero => exact h.elim
    | succ n => omega
  by_cases e : a.d = -1
  · unfold depthIn
    rw [if_pos e]
    omega
  · obtain ⟨h1, h2⟩ := ha.slot e
    have := tableL_done hw n (slotOf a) h1 (by rw [h2]; exact h)
    unfold depthIn
    rw [if_neg e]
    exact this
theorem sound_tableL {xs : List Dt} (hw : WorldOK xs) : Sound xs (tableL xs) := sound_sweeps hw _
theorem mostIn_nonneg {xs : List Dt} (hw : WorldOK xs) (t : Ty) (k : Int) : 0 ≤ mostIn xs (tableL xs) t k := by
  have key : ∀ (ls : List Ty) (m : Int), 0 ≤ m → 0 ≤ mostGo (tableL xs) m ls := by
    intro ls
    induction ls with
    | nil => intro m h; simp only [mostGo]; omega
    | cons a ls ih =>
      intro m h
      simp only [mostGo]
      split
      · omega
      · exact ih _ (by omega)
  exact key _ _ (Int.le_refl _)
theorem least_le {xs : List Dt} (hw : WorldOK xs) {t : Ty} (ht : TyIn xs.length t) {k : Int} (hk : k ∈ ctorsL xs t) (hm : mostIn xs (tableL xs) t k ≠ 0) : depthIn (tableL xs) t ≠ 0 ∧ depthIn (tableL xs) t ≤ mostIn xs (tableL xs) t k := by
  have hs := sound_tableL hw
  have hne := mostGo_ne hm
  have hp := mostGo_pos hs.dpos (Int.le_refl 0) hne
  have h0 : 0 < mostIn xs (tableL xs) t k := hp.1
  have := depthIn_done hw ht (n := (mostIn xs (tableL xs) t k - 1).toNat + 1) (.inr ⟨k, hk, fun a ha => by
    refine hasD_le (hs.dhas (argsOf_in hw ht hk ha) (hne a ha)) ?_
    have := hp.2 a ha
    have h2 : mostGo (tableL xs) 0 (argsOf xs t k) = mostIn xs (tableL xs) t k := rfl
    omega⟩)
  exact ⟨this.1, by have h2 := this.2; omega⟩
theorem least_ex {xs : List Dt} (hw : WorldOK xs) {t : Ty} (ht : TyIn xs.length t) (hd : ¬ t.d = -1) (h : depthIn (tableL xs) t ≠ 0) : ∃ k ∈ ctorsL xs t, mostIn xs (tableL xs) t k ≠ 0 ∧ mostIn xs (tableL xs) t k ≤ depthIn (tableL xs) t := by
  have hs := sound_tableL hw
  have h0 := hs.dpos t
  have hh := hs.dhas ht h
  obtain ⟨m, hm⟩ : ∃ m, (depthIn (tableL xs) t).toNat = m + 1 := ⟨(depthIn (tableL xs) t).toNat - 1, by omega⟩
  rw [hm] at hh
  rcases hh with hh | ⟨k, hk, ha⟩
  · exact absurd hh hd
  · have hall : ∀ a ∈ argsOf xs t k, depthIn (tableL xs) a ≠ 0 ∧ depthIn (tableL xs) a ≤ (m : Int) := fun a hm => depthIn_done hw (argsOf_in hw ht hk hm) (ha a hm)
    have h1 : mostIn xs (tableL xs) t k ≤ (m : Int) + 1 := mostGo_le (by omega) hall
    have h2 : 0 < mostIn xs (tableL xs) t k := (mostGo_pos hs.dpos (Int.le_refl 0) fun a ha => (hall a ha).1).1
    exact ⟨k, hk, by omega, by omega⟩

/-! ### The least of some numbers, where 0 stands for none -/
def bestOf (b m : Int) : Int := if m ≠ 0 ∧ (b = 0 ∨ m < b) then m else b
def bestTo (ms : List Int) : Int := ms.foldl bestOf 0
theorem bestTo_snoc (ms : List Int) (m : Int) : bestTo (ms ++ [m]) = bestOf (bestTo ms) m := by unfold bestTo; rw [List.foldl_append]; rfl
theorem bestTo_spec : ∀ (ms : List Int), (∀ m ∈ ms, 0 ≤ m) → ((bestTo ms = 0 ∧ ∀ m ∈ ms, m = 0) ∨ (bestTo ms ∈ ms ∧ 0 < bestTo ms ∧ ∀ m ∈ ms, m ≠ 0 → bestTo ms ≤ m)) := by
  have key : ∀ (r ms : List Int), ms = r.reverse → (∀ m ∈ ms, 0 ≤ m) → ((bestTo ms = 0 ∧ ∀ m ∈ ms, m = 0) ∨ (bestTo ms ∈ ms ∧ 0 < bestTo ms ∧ ∀ m ∈ ms, m ≠ 0 → bestTo ms ≤ m)) := by
    intro r
    induction r with
    | nil => intro ms e _; subst e; exact .inl ⟨rfl, fun m hm => by cases hm⟩
    | cons x r ih =>
      intro ms e hp
      rw [List.reverse_cons] at e
      subst e
      have hpx := hp x (by simp)
      have ih := ih _ rfl fun m hm => hp m (by simp at hm ⊢; simp [hm])
      rw [bestTo_snoc]
      unfold bestOf
      rcases ih with ⟨h1, h2⟩ | ⟨h1, h2, h3⟩
      · by_cases hx : x = 0
        · left
          rw [if_neg (by omega)]
          exact ⟨h1, fun m hm => by
            rcases List.mem_append.1 hm with h | h
            · exact h2 m h
            · rw [List.mem_singleton] at h; omega⟩
        · right
          rw [if_pos ⟨hx, .inl h1⟩]
          exact ⟨by simp, by omega, fun m hm hm0 => by
            rcases List.mem_append.1 hm with h | h
            · exact absurd (h2 m h) hm0
            · rw [List.mem_singleton] at h; omega⟩
      · right
        split
        · rename_i hc
          exact ⟨by simp, by omega, fun m hm hm0 => by
            rcases List.mem_append.1 hm with h | h
            · have := h3 m h hm0; omega
            · rw [List.mem_singleton] at h; omega⟩
        · rename_i hc
          exact ⟨List.mem_append.2 (.inl h1), h2, fun m hm hm0 => by
            rcases List.mem_append.1 hm with h | h
            · exact h3 m h hm0
            · rw [List.mem_singleton] at h; subst h; omega⟩
  intro ms hp
  exact key ms.reverse ms (by simp) hp
theorem best_least {xs : List Dt} (hw : WorldOK xs) {t : Ty} (ht : TyIn xs.length t) (hd : ¬ t.d = -1) : bestTo ((ctorsL xs t).map (mostIn xs (tableL xs) t)) = depthIn (tableL xs) t := by
  have hp : ∀ m ∈ (ctorsL xs t).map (mostIn xs (tableL xs) t), 0 ≤ m := fun m hm => by
    obtain ⟨k, -, rfl⟩ := List.mem_map.1 hm
    exact mostIn_nonneg hw t k
  have h0 := (sound_tableL hw).dpos t
  rcases bestTo_spec _ hp with ⟨h1, h2⟩ | ⟨h1, h2, h3⟩
  · rw [h1]
    by_cases e : depthIn (tableL xs) t = 0
    · exact e.symm
    · obtain ⟨k, hk, hk0, -⟩ := least_ex hw ht hd e
      exact absurd (h2 _ (List.mem_map.2 ⟨k, hk, rfl⟩)) hk0
  · obtain ⟨k, hk, e⟩ := List.mem_map.1 h1
    have l1 := least_le hw ht hk (by omega)
    obtain ⟨k2, hk2, hk20, hk2l⟩ := least_ex hw ht hd l1.1
    have := h3 _ (List.mem_map.2 ⟨k2, hk2, rfl⟩) hk20
    omega

/-! ### Any index is no deeper -/
theorem hasD_wide {xs : List Dt} (hw : WorldOK xs) : ∀ (n : Nat) (t : Ty), TyIn xs.length t → hasD xs n t → hasD xs n ⟨t.d, 0⟩
  | 0, _, _, h => h
  | n + 1, t, ht, h => by
    rcases h with h | ⟨k, hk, ha⟩
    · exact .inl h
    · refine .inr ⟨k, ctorsL_any ht.inWorld hk, fun a hm => ?_⟩
      obtain ⟨d, m, h1, rfl, hd, hml⟩ := mem_ctorsL ht.inWorld hk
      have hin := fun a ha => argsOf_in hw ht hk (a := a) ha
      obtain ⟨t1, t2⟩ := t
      simp only at h1
      subst h1
      rw [argsOf_get hd hml] at hm
      rw [argsOf_get hd hml] at ha hin
      unfold argsL at hm ha hin
      obtain ⟨b, hb, rfl⟩ := List.mem_map.1 hm
      have hb2 := ha _ (List.mem_map.2 ⟨b, hb, rfl⟩)
      have hb3 := hin _ (List.mem_map.2 ⟨b, hb, rfl⟩)
      cases q : (b.i == -1) with
      | false =>
        rw [argTy_no q] at hb2 ⊢
        exact hb2
      | true =>
        rw [argTy_yes q] at hb2 hb3 ⊢
        unfold resIdx at hb2 hb3 ⊢
        split
        · rename_i hz
          rw [if_pos hz] at hb2 hb3
          exact hasD_wide hw n ⟨b.d, t2⟩ hb3 hb2
        · rename_i hz
          rw [if_neg hz] at hb2
          exact hb2
theorem depth_wide {xs : List Dt} (hw : WorldOK xs) {t : Ty} (ht : TyIn xs.length t) (h : depthIn (tableL xs) t ≠ 0) : depthIn (tableL xs) ⟨t.d, 0⟩ ≠ 0 ∧ depthIn (tableL xs) ⟨t.d, 0⟩ ≤ depthIn (tableL xs) t := by
  have hs := sound_tableL hw
  have ht0 : TyIn xs.length ⟨t.d, 0⟩ := by
    rcases ht with h | ⟨d, i, rfl, h1, h2⟩
    · exact .inl h
    · exact .inr ⟨d, 0, rfl, h1, by omega⟩
  have := depthIn_done hw ht0 (hasD_wide hw _ _ ht (hs.dhas ht h))
  have h0 := hs.dpos t
  exact ⟨this.1, by have h2 := this.2; omega⟩
end Go.Proofs.Ytbejcgknjnhdpaa

namespace Go.Proofs.Ytbejcgknjnhdpaa
open Go.RowKit

/-- a table whose entries are small -/
structure Small (n : Nat) (tab : List Int) : Prop where
  len : tab.length = n * 4
  pos : ∀ s, 0 ≤ tab.getD s 0
  max : ∀ s, tab.getD s 0 ≤ 100000
theorem Small.dep {n : Nat} {tab : List Int} (h : Small n tab) (t : Ty) : 0 ≤ depthIn tab t ∧ depthIn tab t ≤ 100000 := by
  unfold depthIn
  split
  · omega
  · exact ⟨h.pos _, h.max _⟩
theorem depthIn_int {tab : List Int} {t : Ty} (h : t.d = -1) : depthIn tab t = 1 := if_pos h
theorem depthIn_data {tab : List Int} {d i : Nat} (h : d * 4 + i < tab.length) : depthIn tab ⟨(d : Int), (i : Int)⟩ = tab[d * 4 + i] := by
  unfold depthIn
  rw [if_neg (by show ¬ ((d : Int) = -1); omega), slotOf_mk]
  simp [List.getD, List.getElem?_eq_getElem h]
/-- the walk through the arguments, i of them done -/
theorem mostGo_step {tab : List Int} {ls : List Ty} {m : Int} {i : Nat} (h : i < ls.length) : mostGo tab m (ls.drop i) = if depthIn tab ls[i] = 0 then 0 else mostGo tab (max m (depthIn tab ls[i])) (ls.drop (i + 1)) := by
  rw [List.drop_eq_getElem_cons h, mostGo]

set_option maxRecDepth 100000 in
set_option maxHeartbeats 1600000 in
theorem spec_l1Slot (d i : Nat) (hd : d < 4) (hi : i < 4) (w : World) : Calls Try.prog 66 #[.agg #[.int .i64 (d : Int), .int .i64 (i : Int)]] w fun e w' => e = .returned (.int .i64 ((d * 4 + i : Nat) : Int)) ∧ Below w.heap.size w w' := by
  have g1 : (0 : Int) ≤ (d : Int) := by omega
  have g2 : (d : Int) ≤ 3 := by omega
  have g3 : (0 : Int) ≤ (i : Int) := by omega
  have g4 : (i : Int) ≤ 3 := by omega
  go_enter Try.func66, Try.ntmps66
  go_wp2
  go_ret
  exact ⟨ret_int (by omega), (Below.refl _ _).alloc (Nat.le_refl _) _⟩

set_option maxRecDepth 100000 in
set_option maxHeartbeats 1600000 in
theorem spec_l1Depth (n : Nat) (hn : n ≤ 4) (tab : List Int) (htab : Small n tab) (t : Ty) (ht : TyIn n t) (w : World) (v : Value) (F : List Nat) (hx : Arr w (NatR w) tab v F) (hf : Under w.heap.size F) :
    Calls Try.prog 46 #[v, .agg #[.int .i64 t.d, .int .i64 t.i]] w fun e w' => e = .returned (.int .i64 (depthIn tab t)) ∧ Below w.heap.size w w' := by
  obtain ⟨A, cap, rfl, hc1, hc2⟩ := hx.form
  have HX := Lib.hid hx
  have HF := Lib.hid hf
  clear hx hf
  rcases ht with ht | ⟨d, i, rfl, hd, hi⟩
  · have hf := Lib.hid (depthIn_int (tab := tab) ht)
    have t0 : (t.d == -1) = true := by simp [ht]
    clear ht
    go_enter Try.func46, Try.ntmps46
    go_wp2
    go_ret
    exact ⟨ret_int hf.out.symm, (Below.refl _ _).alloc (Nat.le_refl _) _⟩
  · have hsl : d * 4 + i < tab.length := by rw [htab.len]; omega
    have hf := Lib.hid (depthIn_data hsl)
    have t0 : ((d : Int) == -1) = false := by rw [beq_eq_false_iff_ne]; omega
    go_enter Try.func46, Try.ntmps46
    go_wp2_with fail
    refine (spec_l1Slot d i (by omega) hi _).mono ?_
    rintro e w' ⟨rfl, hB'⟩
    have hB0 : Below w.heap.size w (w.alloc (.cells #[.int .i64 (d : Int), .int .i64 (i : Int)] 33)) := (Below.refl _ _).alloc (Nat.le_refl _) _
    have hB := hB0.trans (hB'.mono hB0.size)
    obtain ⟨b, off, rfl⟩ := HX.out.ptr (by omega)
    obtain ⟨hb, c0⟩ := ArrNat.at HX.out HF.out hB (d * 4 + i) hsl
    have g5 : (0 : Int) ≤ ((d * 4 + i : Nat) : Int) := by omega
    have g6 : ((d * 4 + i : Nat) : Int) < (tab.length : Int) := by omega
    generalize hq : d * 4 + i = q at *
    clear hq hB'
    go_wp2
    go_ret
    exact ⟨ret_int hf.out.symm, hB⟩

set_option maxRecDepth 100000 in
set_option maxHeartbeats 1600000 in
theorem spec_l1Most (xs : List Dt) (hw : WorldOK xs) (tab : List Int) (htab : Small xs.length tab) (d i k : Nat) (hd : d < xs.length) (hi : i < 4) (hk : k < xs[d].ctors.length) (w : World) (v u : Value) (F G : List Nat) (hx : Arr w (DtR w) xs v F) (hf : Under w.heap.size F) (hy : Arr w (NatR w) tab u G) (hg : Under w.heap.size G) :
    Calls Try.prog 67 #[v, u, .agg #[.int .i64 (d : Int), .int .i64 (i : Int)], .int .i64 (k : Int)] w fun e w' => e = .returned (.int .i64 (mostIn xs tab ⟨(d : Int), (i : Int)⟩ (k : Int))) ∧ Below w.heap.size w w' := by
  have hmi : mostIn xs tab ⟨(d : Int), (i : Int)⟩ (k : Int) = mostGo tab 0 (argsL xs[d].ctors[k] (i : Int)) := by unfold mostIn; rw [argsOf_get hd hk]
  rw [hmi]
  clear hmi
  have hin : ∀ a ∈ argsL xs[d].ctors[k] (i : Int), TyIn xs.length a := fun a ha => argTy_in (hw.ctor hd hk) (by omega) (by omega) ha
  have hlen : (argsL xs[d].ctors[k] (i : Int)).length ≤ 3 := by rw [argsL_len]; exact (hw.ctor hd hk).args
  have HL := Lib.hid (hw.ctor hd hk).args
  have hn4 := hw.len
  obtain ⟨A, cap, rfl, hc1, hc2⟩ := hx.form
  obtain ⟨A', cap', rfl, hc3, hc4⟩ := hy.form
  have HIN := Lib.hid hin
  have HX := Lib.hid hx
  have HF := Lib.hid hf
  have HY := Lib.hid hy
  have HG := Lib.hid hg
  clear hx hf hy hg
  have HT := Lib.hid htab
  clear hin htab hw
  go_enter Try.func67, Try.ntmps67
  go_wp2_with fail
  have hB0 : Below w.heap.size w (w.alloc (.cells #[.int .i64 (d : Int), .int .i64 (i : Int)] 33)) := (Below.refl _ _).alloc (Nat.le_refl _) _
  refine (spec_l1Args xs d k (i : Int) hd hk _ _ F (ArrDt.below HX.out hB0 HF.out) (HF.out.mono hB0.size) HL.out).mono ?_
  rintro e w3 ⟨v3, F3, rfl, hb3, ha3, -, hfs3⟩
  have hB3 := hB0.trans (hb3.mono hB0.size)
  generalize hass : argsL xs[d].ctors[k] (i : Int) = ls at *
  have HASS := Lib.hid hass
  clear hass
  obtain ⟨A3, cap3, rfl, hd1, hd2⟩ := ha3.form
  have HA := Lib.hid ha3
  have HUA := Lib.hid hfs3.under
  clear ha3 hfs3 hb3 hB0
  go_wp2
  go_loopw [10, 11] (fun mv jv wr => ∃ j : Nat, ∃ m : Int, j ≤ ls.length ∧ jv = .int .i64 j ∧ mv = .int .i64 m ∧ 0 ≤ m ∧ m ≤ 100000 ∧ Hid (mostGo tab 0 ls = mostGo tab m (ls.drop j)) ∧ Below w.heap.size w wr ∧ Hid (Below w3.heap.size w3 wr)) (fun _ jv _ => ls.length - (intOf jv).toNat)
  case atStart => exact ⟨0, 0, Nat.zero_le _, rfl, rfl, by omega, by omega, (show mostGo tab 0 ls = mostGo tab 0 ls from rfl), hB3, Below.refl _ _⟩
  case round =>
    obtain ⟨j, m, hj, rfl, rfl, hm0, hm1, HM, hB, HB3⟩ := hrel
    by_cases hjl : j < ls.length
    · obtain ⟨b3, off3, rfl⟩ := HA.out.ptr (by omega)
      obtain ⟨hb4, a0, a1⟩ := ArrTy.at HA.out HUA.out HB3.out j hjl
      have g5 : (0 : Int) ≤ (j : Int) := by omega
      have g6 : (j : Int) < (ls.length : Int) := by omega
      have hstep := HM.out.trans (mostGo_step hjl)
      have HST := Lib.hid hstep
      clear hstep
      go_wp2_with fail
      refine (spec_l1Depth xs.length hn4 tab HT.out ls[j] (HIN.out _ (List.getElem_mem hjl)) wr _ G (ArrNat.below HY.out hB HG.out) (HG.out.mono hB.size)).mono ?_
      rintro e w5 ⟨rfl, hb5⟩
      have hB5 := hB.trans (hb5.mono hB.size)
      have HB5 := Lib.hid (HB3.out.trans (hb5.mono HB3.out.size))
      have hdp := HT.out.dep ls[j]
      generalize hdd : depthIn tab ls[j] = q at *
      by_cases hq : q = 0
      · have t0 : (q == 0) = true := by simp [hq]
        have hf : Hid (mostGo tab 0 ls = 0) := by have h := HST.out; rw [if_pos hq] at h; exact h
        clear hdd hq
        go_wp2
        go_ret
        exact ⟨ret_int (by rw [HASS.out]; exact hf.out.symm), hB5⟩
      · have t0 : (q == 0) = false := by simpa using hq
        have h2 : mostGo tab 0 ls = mostGo tab (max m q) (ls.drop (j + 1)) := by have h := HST.out; rw [if_neg hq] at h; exact h
        clear hdd hq
        by_cases hgt : m < q
        · have t1 : decide (q > m) = true := by simpa using hgt
          rw [show max m q = q by omega] at h2
          have HM2 := Lib.hid h2
          clear h2 hgt
          go_wp2
          go_roundw
          case rel => exact ⟨j + 1, q, by omega, by go_num, rfl, by omega, by omega, HM2, hB5, HB5⟩
          case measure => (simp [intOf] <;> omega)
        · have t1 : decide (q > m) = false := by simp; omega
          rw [show max m q = m by omega] at h2
          have HM2 := Lib.hid h2
          clear h2 hgt
          go_wp2
          go_roundw
          case rel => exact ⟨j + 1, m, by omega, by go_num, rfl, by omega, by omega, HM2, hB5, HB5⟩
          case measure => (simp [intOf] <;> omega)
    · have hf : Hid (mostGo tab 0 ls = m + 1) := by
        have h := HM.out
        rw [List.drop_of_length_le (by omega)] at h
        exact h
      go_wp2
      go_ret
      exact ⟨ret_int (by rw [HASS.out]; exact hf.out.symm), hB⟩
end Go.Proofs.Ytbejcgknjnhdpaa

namespace Go.Proofs.Ytbejcgknjnhdpaa
open Go.RowKit

def cellsOf (l : List Int) : Array Value := (l.map (Value.int .i64)).toArray
/-- the sixteen cells of the program's table -/
def pad (tab : List Int) : List Int := tab ++ List.replicate (16 - tab.length) 0
theorem cellsOf_get {l : List Int} {s : Nat} (h : s < l.length) : (cellsOf l)[s]? = some (.int .i64 l[s]) := by
  unfold cellsOf
  simp [List.getElem?_map, List.getElem?_eq_getElem h]
theorem cellsOf_set (l : List Int) (s : Nat) (n : Int) : (cellsOf l).setIfInBounds s (.int .i64 n) = cellsOf (l.set s n) := by
  unfold cellsOf
  rw [List.setIfInBounds_toArray, List.map_set]
theorem pad_get {tab : List Int} {s : Nat} (h : s < tab.length) (h2 : s < (pad tab).length) : (pad tab)[s] = tab[s] := by
  have h3 : (pad tab)[s]? = some tab[s] := by unfold pad; rw [List.getElem?_append_left h, List.getElem?_eq_getElem h]
  rw [List.getElem?_eq_getElem h2] at h3
  exact Option.some.inj h3
theorem pad_len {tab : List Int} (h : tab.length ≤ 16) : (pad tab).length = 16 := by unfold pad; rw [List.length_append, List.length_replicate]; omega
theorem pad_set {tab : List Int} {s : Nat} (h : s < tab.length) (n : Int) : (pad tab).set s n = pad (tab.set s n) := by
  unfold pad; rw [List.set_append_left _ _ h, List.length_set]
/-- block g holds the program's table -/
def Tab (w : World) (g : Nat) (tab : List Int) : Prop := Blk w g 82 (cellsOf (pad tab))
theorem Tab.cell {w : World} {g : Nat} {tab : List Int} (h : Tab w g tab) {s : Nat} (hs : s < tab.length) : w.cell? ⟨g, s, none⟩ = some (.int .i64 tab[s]) := by
  have hp : s < (pad tab).length := by unfold pad; rw [List.length_append]; omega
  rw [(show Blk w g 82 (cellsOf (pad tab)) from h).cell s, cellsOf_get hp, pad_get hs hp]

set_option maxRecDepth 100000 in
set_option maxHeartbeats 1600000 in
theorem impl_of (n : Nat) (hn : n ≤ 4) (tab : List Int) (htab : Small n tab) (t : Ty) (ht : TyIn n t) (w : World) (g : Nat) (hx : Tab w g tab) :
    Calls Try.prog 45 #[.pointer (some ⟨g, 0, none⟩), .agg #[.int .i64 t.d, .int .i64 t.i]] w fun e w' => e = .returned (.int .i64 (depthIn tab t)) ∧ Below w.heap.size w w' := by
  have hgl := Blk.lt hx
  have HX := Lib.hid hx
  clear hx
  rcases ht with ht | ⟨d, i, rfl, hd, hi⟩
  · have hf := Lib.hid (depthIn_int (tab := tab) ht)
    have t0 : (t.d == -1) = true := by simp [ht]
    clear ht
    go_enter Try.func45, Try.ntmps45
    go_wp2
    go_ret
    exact ⟨ret_int hf.out.symm, (Below.refl _ _).alloc (Nat.le_refl _) _⟩
  · have hsl : d * 4 + i < tab.length := by rw [htab.len]; omega
    have hf := Lib.hid (depthIn_data hsl)
    have t0 : ((d : Int) == -1) = false := by rw [beq_eq_false_iff_ne]; omega
    have c0 := HX.out.cell hsl
    have g1 : (0 : Int) ≤ (d : Int) := by omega
    have g2 : (d : Int) < 4 := by omega
    have g3 : (0 : Int) ≤ (i : Int) := by omega
    have g4 : (i : Int) < 4 := by omega
    have HB := Lib.hid (fun q => below_drewN ((Below.refl w.heap.size w).alloc (Nat.le_refl _) (.cells #[.int .i64 (d : Int), .int .i64 (i : Int)] 33)) q)
    go_enter Try.func45, Try.ntmps45
    go_wp2_with fail
    go_quiet (fail)
    go_wp2
    go_ret
    exact ⟨ret_int hf.out.symm, HB.out _⟩

set_option maxRecDepth 100000 in
set_option maxHeartbeats 1600000 in
theorem impl_ofCtor (xs : List Dt) (hw : WorldOK xs) (tab : List Int) (htab : Small xs.length tab) (d i k : Nat) (hd : d < xs.length) (hi : i < 4) (hk : k < xs[d].ctors.length) (w : World) (v : Value) (F : List Nat) (g : Nat) (hx : Arr w (DtR w) xs v F) (hf : Under w.heap.size F) (hy : Tab w g tab) :
    Calls Try.prog 65 #[.pointer (some ⟨g, 0, none⟩), v, .agg #[.int .i64 (d : Int), .int .i64 (i : Int)], .int .i64 (k : Int)] w fun e w' => e = .returned (.int .i64 (mostIn xs tab ⟨(d : Int), (i : Int)⟩ (k : Int))) ∧ Below w.heap.size w w' := by
  have hmi : mostIn xs tab ⟨(d : Int), (i : Int)⟩ (k : Int) = mostGo tab 0 (argsL xs[d].ctors[k] (i : Int)) := by unfold mostIn; rw [argsOf_get hd hk]
  rw [hmi]
  clear hmi
  have hin : ∀ a ∈ argsL xs[d].ctors[k] (i : Int), TyIn xs.length a := fun a ha => argTy_in (hw.ctor hd hk) (by omega) (by omega) ha
  have hlen : (argsL xs[d].ctors[k] (i : Int)).length ≤ 3 := by rw [argsL_len]; exact (hw.ctor hd hk).args
  have HL := Lib.hid (hw.ctor hd hk).args
  have hn4 := hw.len
  have hgl := Blk.lt hy
  obtain ⟨A, cap, rfl, hc1, hc2⟩ := hx.form
  have HIN := Lib.hid hin
  have HX := Lib.hid hx
  have HF := Lib.hid hf
  have HY := Lib.hid hy
  clear hx hf hy
  have HT := Lib.hid htab
  clear hin htab hw
  go_enter Try.func65, Try.ntmps65
  go_wp2_with fail
  have hB0 : Below w.heap.size w (w.alloc (.cells #[.int .i64 (d : Int), .int .i64 (i : Int)] 33)) := (Below.refl _ _).alloc (Nat.le_refl _) _
  refine (impl_argTypes xs d k (i : Int) hd hk _ _ F (ArrDt.below HX.out hB0 HF.out) (HF.out.mono hB0.size) HL.out).mono ?_
  rintro e w3 ⟨v3, F3, rfl, hb3, ha3, -, hfs3⟩
  have hB3 := hB0.trans (hb3.mono hB0.size)
  generalize hass : argsL xs[d].ctors[k] (i : Int) = ls at *
  have HASS := Lib.hid hass
  clear hass
  obtain ⟨A3, cap3, rfl, hd1, hd2⟩ := ha3.form
  have HA := Lib.hid ha3
  have HUA := Lib.hid hfs3.under
  clear ha3 hfs3 hb3 hB0
  go_wp2
  go_loopw [9, 18] (fun mv jv wr => ∃ j : Nat, ∃ m : Int, j ≤ ls.length ∧ jv = .int .i64 j ∧ mv = .int .i64 m ∧ 0 ≤ m ∧ m ≤ 100000 ∧ Hid (mostGo tab 0 ls = mostGo tab m (ls.drop j)) ∧ Below w.heap.size w wr ∧ Hid (Below w3.heap.size w3 wr)) (fun _ jv _ => ls.length - (intOf jv).toNat)
  case atStart => exact ⟨0, 0, Nat.zero_le _, rfl, rfl, by omega, by omega, (show mostGo tab 0 ls = mostGo tab 0 ls from rfl), hB3, Below.refl _ _⟩
  case round =>
    obtain ⟨j, m, hj, rfl, rfl, hm0, hm1, HM, hB, HB3⟩ := hrel
    by_cases hjl : j < ls.length
    · obtain ⟨b3, off3, rfl⟩ := HA.out.ptr (by omega)
      obtain ⟨hb4, a0, a1⟩ := ArrTy.at HA.out HUA.out HB3.out j hjl
      have g5 : (0 : Int) ≤ (j : Int) := by omega
      have g6 : (j : Int) < (ls.length : Int) := by omega
      have hstep := HM.out.trans (mostGo_step hjl)
      have HST := Lib.hid hstep
      have hbx : Below wr.heap.size wr (wr.alloc (.cells #[.int .i64 ls[j].d, .int .i64 ls[j].i] 33)) := (Below.refl _ _).alloc (Nat.le_refl _) _
      have hBx := hB.trans (hbx.mono hB.size)
      have HYx : Hid (Tab (wr.alloc (.cells #[.int .i64 ls[j].d, .int .i64 ls[j].i] 33)) g tab) := Blk.same HY.out (hBx.block _ hgl)
      clear hstep
      go_wp2_with fail
      refine (impl_of xs.length hn4 tab HT.out ls[j] (HIN.out _ (List.getElem_mem hjl)) _ g HYx.out).mono ?_
      rintro e w5 ⟨rfl, hb5⟩
      have hB5 := hBx.trans (hb5.mono hBx.size)
      have HB5 := Lib.hid ((HB3.out.trans (hbx.mono HB3.out.size)).trans (hb5.mono (HB3.out.trans (hbx.mono HB3.out.size)).size))
      have hdp := HT.out.dep ls[j]
      generalize hdd : depthIn tab ls[j] = q at *
      by_cases hq : q = 0
      · have t0 : (q == 0) = true := by simp [hq]
        have hf : Hid (mostGo tab 0 ls = 0) := by have h := HST.out; rw [if_pos hq] at h; exact h
        clear hdd hq
        go_wp2
        go_ret
        exact ⟨ret_int (by rw [HASS.out]; exact hf.out.symm), hB5⟩
      · have t0 : (q == 0) = false := by simpa using hq
        have h2 : mostGo tab 0 ls = mostGo tab (max m q) (ls.drop (j + 1)) := by have h := HST.out; rw [if_neg hq] at h; exact h
        clear hdd hq
        have HM2 := Lib.hid h2
        clear h2
        go_wp2
        go_roundw
        case rel => exact ⟨j + 1, max m q, by omega, by go_num, (by congr 1; omega), by omega, by omega, HM2, hB5, HB5⟩
        case measure => (simp [intOf] <;> omega)
    · have hf : Hid (mostGo tab 0 ls = m + 1) := by
        have h := HM.out
        rw [List.drop_of_length_le (by omega)] at h
        exact h
      go_wp2
      go_ret
      exact ⟨ret_int (by rw [HASS.out]; exact hf.out.symm), hB⟩
end Go.Proofs.Ytbejcgknjnhdpaa

namespace Go.Proofs.Ytbejcgknjnhdpaa
open Go.RowKit

/-- the table in sweep n, at slot s, when i constructors of it have been looked at -/
def St (xs : List Dt) (n s i : Nat) : List Int := slotGo xs s (sweepTo xs (sweeps xs n) s) ((ctorsL xs (tyAt s)).take i)
theorem St_zero (xs : List Dt) (n s : Nat) : St xs n s 0 = sweepTo xs (sweeps xs n) s := rfl
theorem St_step {xs : List Dt} {n s i : Nat} (h : i < (ctorsL xs (tyAt s)).length) : St xs n s (i + 1) = putIf (St xs n s i) s (mostIn xs (St xs n s i) (tyAt s) (ctorsL xs (tyAt s))[i]) := by
  unfold St; rw [take_snoc' _ i h, slotGo_snoc]
theorem St_all {xs : List Dt} {n s i : Nat} (h : (ctorsL xs (tyAt s)).length ≤ i) : St xs n s i = sweepTo xs (sweeps xs n) (s + 1) := by
  unfold St; rw [List.take_of_length_le h, sweepTo_succ]
theorem St_sound {xs : List Dt} (hw : WorldOK xs) {n s i : Nat} (hs : s < xs.length * 4) : Sound xs (St xs n s i) :=
  Sound.slot hw hs (fun k hk => List.mem_of_mem_take hk) ((sound_sweeps hw n).to hw (by omega))
theorem St_le {xs : List Dt} {n s i : Nat} (hs : s < xs.length * 4) : Le (sweeps xs n) (St xs n s i) :=
  (le_to xs _ s (by rw [sweeps_length]; omega)).trans (le_slot xs s _ _ (by rw [sweepTo_length, sweeps_length]; exact hs))
def MaxB (tab : List Int) (B : Int) : Prop := ∀ s, tab.getD s 0 ≤ B
theorem mostGo_max {tab : List Int} {B : Int} (h : MaxB tab B) (hB : 1 ≤ B) : ∀ {ls : List Ty} {m : Int}, m ≤ B → mostGo tab m ls ≤ B + 1
  | [], m, hm => by simp only [mostGo]; omega
  | a :: ls, m, hm => by
    simp only [mostGo]
    split
    · omega
    · refine mostGo_max h hB ?_
      have : depthIn tab a ≤ B := by
        unfold depthIn
        split
        · omega
        · exact h _
      omega
theorem put_max {xs : List Dt} {tab : List Int} {B : Int} (h : MaxB tab B) (hB : 1 ≤ B) (s : Nat) (k : Int) : MaxB (putIf tab s (mostIn xs tab (tyAt s) k)) (B + 1) := by
  intro r
  unfold putIf
  split
  · by_cases hs : s < tab.length
    · rw [getD_set _ _ _ _ hs]
      split
      · exact mostGo_max h hB (by omega)
      · have := h r; omega
    · rw [List.set_eq_of_length_le (by omega)]; have := h r; omega
  · have := h r; omega
theorem slot_max {xs : List Dt} (s : Nat) : ∀ (ks : List Int) {tab : List Int} {B : Int}, MaxB tab B → 1 ≤ B → MaxB (slotGo xs s tab ks) (B + ks.length)
  | [], tab, B, h, _ => fun r => by have := h r; simpa [slotGo_nil] using this
  | k :: ks, tab, B, h, hB => by
    rw [slotGo_cons]
    have := slot_max (xs := xs) s ks (put_max (xs := xs) h hB s k) (by omega)
    intro r
    have := this r
    simp only [List.length_cons]
    omega
theorem ctorsL_len {xs : List Dt} (hw : WorldOK xs) {s : Nat} (hs : s < xs.length * 4) : (ctorsL xs (tyAt s)).length ≤ 4 := by
  have hd : s / 4 < xs.length := by omega
  have e : ctorsL xs (tyAt s) = fitTo xs[s / 4].ctors ((s % 4 : Nat) : Int) xs[s / 4].ctors.length := ctorsL_data hd
  rw [e]
  exact Nat.le_trans (fitTo_len _ _ _) (hw.at hd).hi
theorem to_max {xs : List Dt} (hw : WorldOK xs) {tab : List Int} {B : Int} (h : MaxB tab B) (hB : 1 ≤ B) : ∀ {s : Nat}, s ≤ xs.length * 4 → MaxB (sweepTo xs tab s) (B + 4 * s)
  | 0, _ => fun r => by have := h r; simpa [sweepTo_zero] using this
  | s + 1, hs => by
    rw [sweepTo_succ]
    have h1 := slot_max (xs := xs) s (ctorsL xs (tyAt s)) (to_max hw h hB (s := s) (by omega)) (by omega)
    have h2 := ctorsL_len hw (s := s) (by omega)
    intro r
    have := h1 r
    omega
theorem sweeps_max {xs : List Dt} (hw : WorldOK xs) : ∀ n, MaxB (sweeps xs n) (1 + 64 * n)
  | 0 => fun r => by
    simp only [sweeps, List.getD]
    rcases Nat.lt_or_ge r (xs.length * 4) with h | h <;> simp [h]
  | n + 1 => fun r => by
    have h := to_max hw (sweeps_max hw n) (by omega) (Nat.le_refl (xs.length * 4)) r
    have hl := hw.len
    show (sweepTo xs (sweeps xs n) (xs.length * 4)).getD r 0 ≤ _
    omega
theorem St_small {xs : List Dt} (hw : WorldOK xs) {n s i : Nat} (hs : s < xs.length * 4) (hn : n ≤ 100) : Small xs.length (St xs n s i) := by
  have h1 := St_sound hw (n := n) (i := i) hs
  refine ⟨h1.len, h1.pos, fun r => ?_⟩
  have h2 := slot_max (xs := xs) s ((ctorsL xs (tyAt s)).take i) (to_max hw (sweeps_max hw n) (by omega) (s := s) (by omega)) (by omega) r
  have h3 := ctorsL_len hw hs
  have h4 : ((ctorsL xs (tyAt s)).take i).length ≤ 4 := by rw [List.length_take]; omega
  have hl := hw.len
  unfold St
  omega
theorem table_small {xs : List Dt} (hw : WorldOK xs) {n : Nat} (hn : n ≤ 100) : Small xs.length (sweeps xs n) := by
  have h1 := sound_sweeps hw n
  refine ⟨h1.len, h1.pos, fun r => ?_⟩
  have := sweeps_max hw n r
  omega
theorem getD_get {tab : List Int} {s : Nat} (h : s < tab.length) : tab.getD s 0 = tab[s] := by simp [List.getD, List.getElem?_eq_getElem h]

/-- a block of numbers, read as a slice -/
theorem Blk.nats {w : World} {g : Nat} {tab : List Int} (h : Blk w g 3 (cellsOf tab)) (hm : tab.length ≤ maxLen) : Arr w (NatR w) tab (.slice (some ⟨g, 0, none⟩) tab.length tab.length) [g] ∨ tab = [] := by
  by_cases he : tab = []
  · exact .inr he
  refine .inl ⟨_, _, rfl, Nat.le_refl _, hm, .inr ⟨g, 0, tab.map (Value.int .i64), [], rfl, fun j u hj => ?_, ?_, rfl⟩⟩
  · have hjl : j < tab.length := by have := (List.getElem?_eq_some_iff.1 hj).1; simpa using this
    rw [Nat.zero_add, h.cell, cellsOf_get hjl]
    rw [List.getElem?_map, List.getElem?_eq_getElem hjl] at hj
    simpa using hj
  · have : ∀ l : List Int, Flat (NatR w) l (l.map (Value.int .i64)) [] := by
      intro l
      induction l with
      | nil => exact ⟨rfl, rfl⟩
      | cons x l ih => exact ⟨[.int .i64 x], _, [], [], rfl, rfl, ⟨rfl, rfl⟩, ih⟩
    exact this tab

set_option maxRecDepth 100000 in
set_option maxHeartbeats 1600000 in
theorem spec_l1Table (xs : List Dt) (hw : WorldOK xs) (w : World) (v : Value) (F : List Nat) (hx : Arr w (DtR w) xs v F) (hf : Under w.heap.size F) :
    Calls Try.prog 47 #[v] w (MadeNats w (tableL xs)) := by
  obtain ⟨A, cap, rfl, hc1, hc2⟩ := hx.form
  have hn4 := hw.len
  have HW := Lib.hid hw
  have HX := Lib.hid hx
  have HF := Lib.hid hf
  clear hx hf
  clear hw
  obtain ⟨i0, hi, hz0, hz1, hz2⟩ := info_parts info_int
  have hmk : ∀ W : World, (Instr.makeSlice 37 (.int .i64 ((xs.length : Int) * 4)) (.int .i64 ((xs.length : Int) * 4))).run Try.prog W = .ok (.slice (some ⟨W.heap.size, 0, none⟩) (xs.length * 4) (xs.length * 4)) (W.alloc (.cells (cellsOf (sweeps xs 0)) 3)) := fun W => by
    have h := run_make_rowN (P := Try.prog) 37 3 i0 _ Try.underlying37 hi hz0 .i64 .i64 (xs.length * 4) (xs.length * 4) (Nat.le_refl _) (by rw [hz2]; omega) (by omega) W
    rw [hz1, show ((xs.length * 4 : Nat) : Int) = (xs.length : Int) * 4 by omega] at h
    rw [h]
    congr 2
    have e : (madeCells #[Value.int .i64 0] (xs.length * 4)).toList = (cellsOf (sweeps xs 0)).toList := by
      rw [toList_madeCells_one]
      unfold cellsOf
      simp [sweeps]
    show Obj.cells (madeCells #[Value.int .i64 0] (xs.length * 4 * 1)) _ _ = _
    rw [Nat.mul_one]
    congr 1
    exact Array.toList_inj.1 e
  clear hi hz0 hz1 hz2
  go_enter Try.func47, Try.ntmps47
  go_wp2
  clear hmk
  have hB0 : Below w.heap.size w (w.alloc (.cells (cellsOf (sweeps xs 0)) 3)) := (Below.refl _ _).alloc (Nat.le_refl _) _
  have HT0 : Hid (Blk (w.alloc (.cells (cellsOf (sweeps xs 0)) 3)) w.heap.size 3 (cellsOf (sweeps xs 0))) := Blk.new _ _ _
  go_loopw [4] (fun nv wr => ∃ n : Nat, n ≤ xs.length * 4 + 1 ∧ nv = .int .i64 n ∧ Hid (Blk wr w.heap.size 3 (cellsOf (sweeps xs n))) ∧ Below w.heap.size w wr) (fun nv _ => xs.length * 4 + 1 - (intOf nv).toNat)
  case atStart => exact ⟨0, Nat.zero_le _, rfl, HT0, hB0⟩
  case round =>
    clear hB0 HT0
    obtain ⟨n, hn, rfl, HT, hB⟩ := hrel
    by_cases hnl : n ≤ xs.length * 4
    · have t9 : decide ((n : Int) ≤ (xs.length : Int) * 4) = true := by simp; omega
      go_wp2
      clear t9
      obtain ⟨wo, hwo⟩ : ∃ wo : World, wo = wr := ⟨_, rfl⟩
      go_loopw [5] (fun sv ws => ∃ s : Nat, s ≤ xs.length * 4 ∧ sv = .int .i64 s ∧ Hid (Blk ws w.heap.size 3 (cellsOf (sweepTo xs (sweeps xs n) s))) ∧ Below w.heap.size w ws) (fun sv _ => xs.length * 4 - (intOf sv).toNat)
      case atStart => exact ⟨0, Nat.zero_le _, rfl, HT, hB⟩
      case round =>
        clear hwo HT hB
        obtain ⟨s, hs, rfl, HT, hB⟩ := hrel
        by_cases hsl : s < xs.length * 4
        · obtain ⟨q, hq⟩ : ∃ q : Nat, q = s / 4 := ⟨_, rfl⟩
          obtain ⟨r, hr⟩ : ∃ r : Nat, r = s % 4 := ⟨_, rfl⟩
          have hsq : s = q * 4 + r := by omega
          have hql : q < xs.length := by omega
          have hrl : r < 4 := by omega
          have eq : (s : Int) / 4 = (q : Int) := by omega
          have er : (s : Int) % 4 = (r : Int) := by omega
          have hty : tyAt s = ⟨(q : Int), (r : Int)⟩ := by rw [hsq]; exact tyAt_mk hrl
          have HTY := Lib.hid hty
          have HSQ := Lib.hid hsq
          clear hq hr hty hsq
          have hgl := HT.out.lt
          have hbx : Below wr.heap.size wr (wr.alloc (.cells #[.int .i64 (q : Int), .int .i64 (r : Int)] 33)) := (Below.refl _ _).alloc (Nat.le_refl _) _
          have hBx := hB.trans (hbx.mono hB.size)
          have HTx : Hid (Blk (wr.alloc (.cells #[.int .i64 (q : Int), .int .i64 (r : Int)] 33)) w.heap.size 3 (cellsOf (sweepTo xs (sweeps xs n) s))) := HT.out.same (hbx.block _ hgl)
          have KXx : Hid (Blk (wr.alloc (.cells #[.int .i64 (q : Int), .int .i64 (r : Int)] 33)) wr.heap.size 33 #[.int .i64 (q : Int), .int .i64 (r : Int)]) := Blk.new _ _ _
          go_wp2_with fail
          clear eq er
          refine (spec_l1Ctors xs ⟨(q : Int), (r : Int)⟩ _ _ F (ArrDt.below HX.out hBx HF.out) (HF.out.mono hBx.size) HW.out (.inr ⟨q, rfl, hql⟩)).mono ?_
          rintro e w3 ⟨v3, F3, rfl, hb3, ha3, -, hfs3⟩
          have hB3 := hBx.trans (hb3.mono hBx.size)
          have HT3 := Lib.hid (HTx.out.same (hb3.block _ HTx.out.lt))
          have KX3 := Lib.hid (KXx.out.same (hb3.block _ KXx.out.lt))
          rw [← HTY.out] at ha3
          obtain ⟨A3, cap3, rfl, hd1, hd2⟩ := ha3.form
          have HA3 := Lib.hid ha3
          have HU3 := Lib.hid hfs3.under
          have hgx : wr.heap.size < (wr.alloc (.cells #[.int .i64 (q : Int), .int .i64 (r : Int)] 33)).heap.size := by simp
          have HN3 : Hid (w.heap.size ∉ F3) := fun h => by have := (hfs3 _ h).1; omega
          have HS0 : Hid (Blk w3 w.heap.size 3 (cellsOf (St xs n s 0))) := HT3
          have hne : w.heap.size ≠ wr.heap.size := by omega
          have hbt := wr.heap.size
          generalize hbte : wr.heap.size = bt at *
          have HNE := Lib.hid hne
          clear hbt hbte ha3 hfs3 hb3 hgx HT3 HTx KXx hbx hBx hB HT hne hgl
          go_wp2
          obtain ⟨wo, hwo⟩ : ∃ wo : World, wo = w3 := ⟨_, rfl⟩
          go_loopw [8] (fun iv ws => ∃ i : Nat, i ≤ (ctorsL xs (tyAt s)).length ∧ iv = .int .i64 i ∧ Hid (Blk ws w.heap.size 3 (cellsOf (St xs n s i))) ∧ Hid (Blk ws bt 33 #[.int .i64 (q : Int), .int .i64 (r : Int)]) ∧ Hid (Arr ws (NatR ws) (ctorsL xs (tyAt s)) (.slice A3 (ctorsL xs (tyAt s)).length cap3) F3 ∧ Under ws.heap.size F3) ∧ Below w.heap.size w ws) (fun iv _ => (ctorsL xs (tyAt s)).length - (intOf iv).toNat)
          case atStart => exact ⟨0, Nat.zero_le _, rfl, HS0, KX3, ⟨HA3.out, HU3.out⟩, hB3⟩
          case round =>
            clear hwo HS0 KX3 HA3 HU3 hB3
            obtain ⟨i, hi, rfl, HS, KX, HA, hB⟩ := hrel
            have hgl := HS.out.lt
            have hbl := KX.out.lt
            by_cases hil : i < (ctorsL xs (tyAt s)).length
            · obtain ⟨b7, off7, rfl⟩ := HA.out.1.ptr (by omega)
              obtain ⟨hb7, c7⟩ := ArrNat.at HA.out.1 HA.out.2 (Below.refl _ _) i hil
              obtain ⟨d', k, e1, hki, hd', hk'⟩ := mem_ctorsL (xs := xs) (t := tyAt s) (by rw [HTY.out]; exact .inr ⟨q, rfl, hql⟩) (List.getElem_mem hil)
              rw [HTY.out] at e1
              obtain rfl : q = d' := Int.ofNat.inj e1
              rw [hki] at c7
              have hstep := St_step (n := n) hil
              have hmo : mostIn xs (St xs n s i) (tyAt s) (ctorsL xs (tyAt s))[i] = mostIn xs (St xs n s i) ⟨(q : Int), (r : Int)⟩ (k : Int) := by rw [hki]; exact congrArg (fun t => mostIn xs (St xs n s i) t (k : Int)) HTY.out
              rw [hmo] at hstep
              have HST := Lib.hid hstep
              clear hstep hmo e1 hki
              have hsm := St_small HW.out (n := n) (i := i) hsl (by omega)
              have hsll : s < (St xs n s i).length := by rw [hsm.len]; exact hsl
              have hnat := (HS.out.nats (by rw [hsm.len]; unfold maxLen; omega)).resolve_right (fun e => by rw [e] at hsll; simp at hsll)
              rw [hsm.len] at hnat
              have HNAT := Lib.hid hnat
              have HSM := Lib.hid hsm
              have HUG : Hid (Under wr.drew.heap.size [w.heap.size]) := fun b hb => by rw [List.mem_singleton] at hb; rw [hb]; exact hgl
              clear hnat hsm
              have y0 : wr.cell? ⟨bt, 0, none⟩ = some (.int .i64 (q : Int)) := (KX.out.cell 0).trans (by simp)
              have y1 : wr.cell? ⟨bt, 1, none⟩ = some (.int .i64 (r : Int)) := (KX.out.cell 1).trans (by simp)
              have g1 : (0 : Int) ≤ (i : Int) := by omega
              have g2 : (i : Int) < ((ctorsL xs (tyAt s)).length : Int) := by omega
              go_wp2_with fail
              have hkeep : ∀ U U' : World, (U.cell? ⟨bt, 0, none⟩ = some (.int .i64 (q : Int)) ∧ U.cell? ⟨bt, 1, none⟩ = some (.int .i64 (r : Int)) ∧ U.cell? ⟨b7, off7 + i, none⟩ = some (.int .i64 (k : Int))) → Below U.heap.size U U' → wr.heap.size ≤ U.heap.size → (U'.cell? ⟨bt, 0, none⟩ = some (.int .i64 (q : Int)) ∧ U'.cell? ⟨bt, 1, none⟩ = some (.int .i64 (r : Int)) ∧ U'.cell? ⟨b7, off7 + i, none⟩ = some (.int .i64 (k : Int))) := fun U U' h hUU hU => ⟨(hUU.cell (Nat.lt_of_lt_of_le (hbl) hU)).trans h.1, (hUU.cell (Nat.lt_of_lt_of_le (hbl) hU)).trans h.2.1, (hUU.cell (Nat.lt_of_lt_of_le (hb7) hU)).trans h.2.2⟩
              have HKeep := Lib.hid hkeep
              clear hkeep
              go_region_held3 (fun w' => w'.cell? ⟨bt, 0, none⟩ = some (.int .i64 (q : Int)) ∧ w'.cell? ⟨bt, 1, none⟩ = some (.int .i64 (r : Int)) ∧ w'.cell? ⟨b7, off7 + i, none⟩ = some (.int .i64 (k : Int))) (first | assumption | (exact ⟨y0, y1, c7⟩) | (exact HKeep.out wr.drew w' ⟨y0, y1, c7⟩ hB' (Nat.le_refl _))) (first | (go_at_call 67; ((with_reducible refine (spec_l1Most xs HW.out (St xs n s i) HSM.out q r k hql hrl hk' _ _ _ F [w.heap.size] (ArrDt.below HX.out hB.drew HF.out) (HF.out.mono hB.drew.size) (ArrNat.drew HNAT.out) HUG.out).mono ?_); rintro e w' ⟨rfl, hB'⟩)))
              have hB5 := hB.drew.trans (hB'.mono hB.size)
              have HS5 := Lib.hid (HS.out.same (hB'.block _ hgl))
              have KX5 := Lib.hid (KX.out.same (hB'.block _ hbl))
              have HA5 : Hid (Arr w' (NatR w') (ctorsL xs (tyAt s)) (.slice (some ⟨b7, off7, none⟩) (ctorsL xs (tyAt s)).length cap3) F3 ∧ Under w'.heap.size F3) := ⟨ArrNat.below (w := wr) HA.out.1 (below_undrew hB') HA.out.2, HA.out.2.mono hB'.size⟩
              clear HKeep HNAT c7 y0 y1
              have z0 : w'.cell? ⟨w.heap.size, s, none⟩ = some (.int .i64 (St xs n s i)[s]) := (HS5.out.cell s).trans (cellsOf_get hsll)
              have zf := HS5.out.frozen s
              have hgl5 := HS5.out.lt
              have g3 : (0 : Int) ≤ (s : Int) := by omega
              have g4 : (s : Int) < (xs.length : Int) * 4 := by omega
              have hbet : better (St xs n s i) s (mostIn xs (St xs n s i) ⟨(q : Int), (r : Int)⟩ (k : Int)) = (decide (0 < mostIn xs (St xs n s i) ⟨(q : Int), (r : Int)⟩ (k : Int)) && (decide ((St xs n s i)[s] = 0) || decide (mostIn xs (St xs n s i) ⟨(q : Int), (r : Int)⟩ (k : Int) < (St xs n s i)[s]))) := by
                unfold better; rw [getD_get hsll]
              generalize hm : mostIn xs (St xs n s i) ⟨(q : Int), (r : Int)⟩ (k : Int) = m at *
              have HMM := Lib.hid hm
              generalize hold : (St xs n s i)[s] = old at *
              have HOLD := Lib.hid hold
              clear hm hold
              by_cases h0 : 0 < m
              · have t0 : decide (m > 0) = true := by simpa using h0
                by_cases h1 : old = 0
                · have t1 : (old == 0) = true := by simp [h1]
                  have hb1 : better (St xs n s i) s m = true := by rw [hbet, decide_eq_true h0, decide_eq_true h1]; rfl
                  clear hbet h1
                  have HS6 : Hid (Blk (w'.setCell ⟨w.heap.size, s, none⟩ (.int .i64 m)) w.heap.size 3 (cellsOf (St xs n s (i + 1)))) := by
                    have h := HS5.out.set_ s (.int .i64 m)
                    rw [cellsOf_set, ← putIf_yes hb1, ← HST.out] at h
                    exact h
                  have KX6 : Hid (Blk (w'.setCell ⟨w.heap.size, s, none⟩ (.int .i64 m)) bt 33 #[.int .i64 (q : Int), .int .i64 (r : Int)]) := KX5.out.same (Below.heap_setCell _ _ _ _ (fun e => HNE.out e.symm))
                  have HA6 : Hid (Arr (w'.setCell ⟨w.heap.size, s, none⟩ (.int .i64 m)) (NatR (w'.setCell ⟨w.heap.size, s, none⟩ (.int .i64 m))) (ctorsL xs (tyAt s)) (.slice (some ⟨b7, off7, none⟩) (ctorsL xs (tyAt s)).length cap3) F3 ∧ Under (w'.setCell ⟨w.heap.size, s, none⟩ (.int .i64 m)).heap.size F3) := ⟨ArrNat.kept HA5.out.1 (Kept.set (Kept.refl _ _) HN3.out), HA5.out.2.mono (by simp [World.setCell])⟩
                  have hB6 : Below w.heap.size w (w'.setCell ⟨w.heap.size, s, none⟩ (.int .i64 m)) := hB5.setCell (Nat.le_refl _) _
                  clear hb1
                  go_wp2
                  go_roundw
                  case rel => exact ⟨i + 1, by omega, by go_num, HS6, KX6, HA6, hB6⟩
                  case measure => (simp [intOf] <;> omega)
                · have t1 : (old == 0) = false := by simpa using h1
                  by_cases h2 : m < old
                  · have hb1 : better (St xs n s i) s m = true := by rw [hbet, decide_eq_true h0, decide_eq_true h2, Bool.or_true]; rfl
                    clear hbet h1
                    have HS6 : Hid (Blk (w'.setCell ⟨w.heap.size, s, none⟩ (.int .i64 m)) w.heap.size 3 (cellsOf (St xs n s (i + 1)))) := by
                      have h := HS5.out.set_ s (.int .i64 m)
                      rw [cellsOf_set, ← putIf_yes hb1, ← HST.out] at h
                      exact h
                    have KX6 : Hid (Blk (w'.setCell ⟨w.heap.size, s, none⟩ (.int .i64 m)) bt 33 #[.int .i64 (q : Int), .int .i64 (r : Int)]) := KX5.out.same (Below.heap_setCell _ _ _ _ (fun e => HNE.out e.symm))
                    have HA6 : Hid (Arr (w'.setCell ⟨w.heap.size, s, none⟩ (.int .i64 m)) (NatR (w'.setCell ⟨w.heap.size, s, none⟩ (.int .i64 m))) (ctorsL xs (tyAt s)) (.slice (some ⟨b7, off7, none⟩) (ctorsL xs (tyAt s)).length cap3) F3 ∧ Under (w'.setCell ⟨w.heap.size, s, none⟩ (.int .i64 m)).heap.size F3) := ⟨ArrNat.kept HA5.out.1 (Kept.set (Kept.refl _ _) HN3.out), HA5.out.2.mono (by simp [World.setCell])⟩
                    have hB6 : Below w.heap.size w (w'.setCell ⟨w.heap.size, s, none⟩ (.int .i64 m)) := hB5.setCell (Nat.le_refl _) _
                    clear hb1
                    go_wp2
                    go_roundw
                    case rel => exact ⟨i + 1, by omega, by go_num, HS6, KX6, HA6, hB6⟩
                    case measure => (simp [intOf] <;> omega)
                  · have hb1 : better (St xs n s i) s m = false := by rw [hbet, decide_eq_false h1, decide_eq_false h2]; simp
                    clear hbet h1
                    have HS6 : Hid (Blk w' w.heap.size 3 (cellsOf (St xs n s (i + 1)))) := by
                      have h := HS5.out
                      rw [← movedB_not hb1, ← HST.out] at h
                      exact h
                    clear hb1
                    go_wp2
                    go_roundw
                    case rel => exact ⟨i + 1, by omega, by go_num, HS6, KX5, HA5, hB5⟩
                    case measure => (simp [intOf] <;> omega)
              · have t0 : decide (m > 0) = false := by simp; omega
                have hb1 : better (St xs n s i) s m = false := by rw [hbet, decide_eq_false h0]; rfl
                clear hbet
                have HS6 : Hid (Blk w' w.heap.size 3 (cellsOf (St xs n s (i + 1)))) := by
                  have h := HS5.out
                  rw [← movedB_not hb1, ← HST.out] at h
                  exact h
                clear hb1
                go_wp2
                go_roundw
                case rel => exact ⟨i + 1, by omega, by go_num, HS6, KX5, HA5, hB5⟩
                case measure => (simp [intOf] <;> omega)
            · have HT2 : Hid (Blk wr w.heap.size 3 (cellsOf (sweepTo xs (sweeps xs n) (s + 1)))) := by
                have h := HS.out
                rw [St_all (by omega)] at h
                exact h
              go_wp2
              go_roundw
              case rel => exact ⟨s + 1, by omega, by go_num, HT2, hB⟩
              case measure => (simp [intOf] <;> omega)
        · have HT2 : Hid (Blk wr w.heap.size 3 (cellsOf (sweeps xs (n + 1)))) := by
            have h := HT.out
            rw [show s = xs.length * 4 by omega] at h
            exact h
          go_wp2
          go_roundw
          case rel => exact ⟨n + 1, by omega, by go_num, HT2, hB⟩
          case measure => (simp [intOf] <;> omega)
    · have hfin : MadeNats w (tableL xs) (.returned (.slice (some ⟨w.heap.size, 0, none⟩) (xs.length * 4) (xs.length * 4))) wr := by
        have h := HT.out
        rw [show n = xs.length * 4 + 1 by omega] at h
        have hl : (tableL xs).length = xs.length * 4 := sweeps_length xs _
        rcases Blk.nats (tab := tableL xs) h (by rw [hl]; unfold maxLen; omega) with h1 | h1
        · rw [hl] at h1
          exact ⟨_, [w.heap.size], rfl, hB, h1, ⟨by simp, fun b hb i => by rw [List.mem_singleton] at hb; rw [hb]; exact h.frozen i⟩, fun b hb => by rw [List.mem_singleton] at hb; rw [hb]; exact ⟨Nat.le_refl _, h.lt⟩⟩
        · rw [h1] at hl
          refine ⟨_, [], rfl, hB, ⟨some ⟨w.heap.size, 0, none⟩, xs.length * 4, ?_, ?_, ?_, .inl ⟨h1, rfl⟩⟩, Free.nil _, Fresh.nil _ _⟩
          · rw [h1, ← hl]
          · rw [h1]; simp
          · unfold maxLen; omega
      have HFin := Lib.hid hfin
      clear hfin
      go_wp2
      go_ret
      exact HFin.out
end Go.Proofs.Ytbejcgknjnhdpaa

namespace Go.Proofs.Ytbejcgknjnhdpaa
open Go.RowKit

theorem Tab.same {w w' : World} {g : Nat} {tab : List Int} (h : Tab w g tab) (e : w'.heap[g]? = w.heap[g]?) : Tab w' g tab := Blk.same h e
theorem Tab.lt {w : World} {g : Nat} {tab : List Int} (h : Tab w g tab) : g < w.heap.size := Blk.lt h
theorem Tab.set {w : World} {g : Nat} {tab : List Int} (h : Tab w g tab) {s : Nat} (hs : s < tab.length) (n : Int) : Tab (w.setCell ⟨g, s, none⟩ (.int .i64 n)) g (tab.set s n) := by
  have h1 := Blk.set_ h s (.int .i64 n)
  rw [cellsOf_set, pad_set hs] at h1
  exact h1
theorem sweeps_zero_pad {xs : List Dt} (h : xs.length ≤ 4) : pad (sweeps xs 0) = List.replicate 16 0 := by
  unfold pad
  simp only [sweeps, List.length_replicate]
  rw [List.replicate_append_replicate]
  congr 1
  omega
/-- the call gives a pointer to a table of its own -/
def GivesTab (xs : List Dt) (w : World) (e : Ending) (w' : World) : Prop := ∃ g, e = .returned (.pointer (some ⟨g, 0, none⟩)) ∧ w.heap.size ≤ g ∧ Tab w' g (tableL xs) ∧ Below w.heap.size w w'

set_option maxRecDepth 100000 in
set_option maxHeartbeats 1600000 in
theorem impl_depthsOf (xs : List Dt) (hw : WorldOK xs) (w : World) (v : Value) (F : List Nat) (hx : Arr w (DtR w) xs v F) (hf : Under w.heap.size F) :
    Calls Try.prog 44 #[v] w (GivesTab xs w) := by
  obtain ⟨A, cap, rfl, hc1, hc2⟩ := hx.form
  have hn4 := hw.len
  have HW := Lib.hid hw
  have HX := Lib.hid hx
  have HF := Lib.hid hf
  clear hx hf
  clear hw
  go_enter Try.func44, Try.ntmps44
  go_wp2
  have hB0 : Below w.heap.size w (w.alloc (.cells #[.int .i64 0, .int .i64 0, .int .i64 0, .int .i64 0, .int .i64 0, .int .i64 0, .int .i64 0, .int .i64 0, .int .i64 0, .int .i64 0, .int .i64 0, .int .i64 0, .int .i64 0, .int .i64 0, .int .i64 0, .int .i64 0] 82)) := (Below.refl _ _).alloc (Nat.le_refl _) _
  have HT0 : Hid (Tab (w.alloc (.cells #[.int .i64 0, .int .i64 0, .int .i64 0, .int .i64 0, .int .i64 0, .int .i64 0, .int .i64 0, .int .i64 0, .int .i64 0, .int .i64 0, .int .i64 0, .int .i64 0, .int .i64 0, .int .i64 0, .int .i64 0, .int .i64 0] 82)) w.heap.size (sweeps xs 0)) := by
    unfold Hid Tab
    rw [sweeps_zero_pad hn4]
    exact Blk.new _ _ _
  go_loopg [4] (xs.length * 4 + 3) (fun gk cv wr => ∃ m : Nat, ∃ c : Bool, m + gk = xs.length * 4 + 3 ∧ cv = .bool c ∧ Hid (c = false → sweep xs (sweeps xs m) = sweeps xs m) ∧ (c = true → m ≤ xs.length * 4 + 1) ∧ Hid (Tab wr w.heap.size (sweeps xs m)) ∧ Below w.heap.size w wr)
  case atStart => exact ⟨0, true, by omega, rfl, (fun h => by cases h), (fun _ => by omega), HT0, hB0⟩
  case round =>
    clear hB0 HT0
    obtain ⟨m, c, hmk, rfl, HFX, hmc, HT, hB⟩ := hrel
    cases c with
    | false =>
      have hfin : GivesTab xs w (.returned (.pointer (some ⟨w.heap.size, 0, none⟩))) wr := ⟨_, rfl, Nat.le_refl _, by rw [← fix_table HW.out (HFX.out rfl)]; exact HT.out, hB⟩
      have HFin := Lib.hid hfin
      clear hfin hmc
      go_wp2
      go_ret
      exact HFin.out
    | true =>
      have hm1 := hmc rfl
      clear hmc HFX
      go_wp2
      obtain ⟨wo, hwo⟩ : ∃ wo : World, wo = wr := ⟨_, rfl⟩
      go_loopw [4, 16] (fun cv qv ws => ∃ q : Nat, q ≤ xs.length ∧ qv = .int .i64 q ∧ cv = .bool (movedB (sweeps xs m) (sweepTo xs (sweeps xs m) (q * 4))) ∧ Hid (Tab ws w.heap.size (sweepTo xs (sweeps xs m) (q * 4))) ∧ Below w.heap.size w ws) (fun _ qv _ => xs.length - (intOf qv).toNat)
      case atStart => exact ⟨0, Nat.zero_le _, rfl, (by rw [show (0 : Nat) * 4 = 0 from rfl, sweepTo_zero, movedB_refl]), HT, hB⟩
      case round =>
        clear hwo HT hB
        obtain ⟨q, hq, rfl, rfl, HT, hB⟩ := hrel
        by_cases hql : q < xs.length
        · have g1 : (0 : Int) ≤ (q : Int) := by omega
          have g2 : (q : Int) < (xs.length : Int) := by omega
          generalize hcv : movedB (sweeps xs m) (sweepTo xs (sweeps xs m) (q * 4)) = cb
          have HCV := Lib.hid hcv
          clear hcv
          go_wp2
          obtain ⟨wo, hwo⟩ : ∃ wo : World, wo = wr := ⟨_, rfl⟩
          go_loopw [4, 6] (fun cv rv ws => ∃ r : Nat, ∃ c : Bool, r ≤ 4 ∧ rv = .int .i64 r ∧ cv = .bool c ∧ Hid (movedB (sweeps xs m) (sweepTo xs (sweeps xs m) (q * 4 + r)) = c) ∧ Hid (Tab ws w.heap.size (sweepTo xs (sweeps xs m) (q * 4 + r))) ∧ Below w.heap.size w ws) (fun _ rv _ => 4 - (intOf rv).toNat)
          case atStart => exact ⟨0, cb, Nat.zero_le _, rfl, rfl, HCV, HT, hB⟩
          case round =>
            clear hwo HT hB HCV
            obtain ⟨r, c, hr, rfl, rfl, HCV, HT, hB⟩ := hrel
            by_cases hrl : r < 4
            · have hty : tyAt (q * 4 + r) = ⟨(q : Int), (r : Int)⟩ := tyAt_mk hrl
              have HTY := Lib.hid hty
              clear hty
              have hsl : q * 4 + r < xs.length * 4 := by omega
              have t9 : decide ((r : Int) ≤ 3) = true := by simp; omega
              have hgl := HT.out.lt
              have hbx : Below wr.heap.size wr (wr.alloc (.cells #[.int .i64 (q : Int), .int .i64 (r : Int)] 33)) := (Below.refl _ _).alloc (Nat.le_refl _) _
              have hBx := hB.trans (hbx.mono hB.size)
              have HTx : Hid (Tab (wr.alloc (.cells #[.int .i64 (q : Int), .int .i64 (r : Int)] 33)) w.heap.size (sweepTo xs (sweeps xs m) (q * 4 + r))) := HT.out.same (hbx.block _ hgl)
              have KXx : Hid (Blk (wr.alloc (.cells #[.int .i64 (q : Int), .int .i64 (r : Int)] 33)) wr.heap.size 33 #[.int .i64 (q : Int), .int .i64 (r : Int)]) := Blk.new _ _ _
              go_wp2_with fail
              clear t9
              refine (impl_ctorsOf xs ⟨(q : Int), (r : Int)⟩ _ _ F (ArrDt.below HX.out hBx HF.out) (HF.out.mono hBx.size) HW.out (.inr ⟨q, rfl, hql⟩)).mono ?_
              rintro e w3 ⟨v3, F3, rfl, hb3, ha3, -, hfs3⟩
              have hB3 := hBx.trans (hb3.mono hBx.size)
              have HT3 := Lib.hid (HTx.out.same (hb3.block _ HTx.out.lt))
              have KX3 := Lib.hid (KXx.out.same (hb3.block _ KXx.out.lt))
              rw [← HTY.out] at ha3
              obtain ⟨A3, cap3, rfl, hd1, hd2⟩ := ha3.form
              have HA3 := Lib.hid ha3
              have HU3 := Lib.hid hfs3.under
              have hgx : wr.heap.size < (wr.alloc (.cells #[.int .i64 (q : Int), .int .i64 (r : Int)] 33)).heap.size := by simp
              have HN3 : Hid (w.heap.size ∉ F3) := fun h => by have := (hfs3 _ h).1; omega
              have HS0 : Hid (Tab w3 w.heap.size (St xs m (q * 4 + r) 0)) := HT3
              have HC0 : Hid (movedB (sweeps xs m) (St xs m (q * 4 + r) 0) = c) := HCV
              have hne : w.heap.size ≠ wr.heap.size := by omega
              have hbt := wr.heap.size
              generalize hbte : wr.heap.size = bt at *
              have HNE := Lib.hid hne
              clear hbt hbte ha3 hfs3 hb3 hgx HT3 HTx KXx hbx hBx hB HT hne hgl HCV
              generalize hse : q * 4 + r = s at *
              have HSE := Lib.hid hse
              clear hse
              go_wp2
              obtain ⟨wo, hwo⟩ : ∃ wo : World, wo = w3 := ⟨_, rfl⟩
              go_loopw [4, 30] (fun cv iv ws => ∃ i : Nat, ∃ c : Bool, i ≤ (ctorsL xs (tyAt s)).length ∧ iv = .int .i64 i ∧ cv = .bool c ∧ Hid (movedB (sweeps xs m) (St xs m s i) = c) ∧ Hid (Tab ws w.heap.size (St xs m s i)) ∧ Hid (Blk ws bt 33 #[.int .i64 (q : Int), .int .i64 (r : Int)]) ∧ Hid (Arr ws (NatR ws) (ctorsL xs (tyAt s)) (.slice A3 (ctorsL xs (tyAt s)).length cap3) F3 ∧ Under ws.heap.size F3) ∧ Below w.heap.size w ws) (fun _ iv _ => (ctorsL xs (tyAt s)).length - (intOf iv).toNat)
              case atStart => exact ⟨0, c, Nat.zero_le _, rfl, rfl, HC0, HS0, KX3, ⟨HA3.out, HU3.out⟩, hB3⟩
              case round =>
                clear hwo HS0 KX3 HA3 HU3 hB3 HC0
                obtain ⟨i, c, hi, rfl, rfl, HC, HS, KX, HA, hB⟩ := hrel
                have hgl := HS.out.lt
                have hbl := KX.out.lt
                by_cases hil : i < (ctorsL xs (tyAt s)).length
                · obtain ⟨b7, off7, rfl⟩ := HA.out.1.ptr (by omega)
                  obtain ⟨hb7, c7⟩ := ArrNat.at HA.out.1 HA.out.2 (Below.refl _ _) i hil
                  obtain ⟨d', k, e1, hki, hd', hk'⟩ := mem_ctorsL (xs := xs) (t := tyAt s) (by rw [HTY.out]; exact .inr ⟨q, rfl, hql⟩) (List.getElem_mem hil)
                  rw [HTY.out] at e1
                  obtain rfl : q = d' := Int.ofNat.inj e1
                  rw [hki] at c7
                  have hstep := St_step (n := m) hil
                  have hmo : mostIn xs (St xs m s i) (tyAt s) (ctorsL xs (tyAt s))[i] = mostIn xs (St xs m s i) ⟨(q : Int), (r : Int)⟩ (k : Int) := by rw [hki]; exact congrArg (fun t => mostIn xs (St xs m s i) t (k : Int)) HTY.out
                  rw [hmo] at hstep
                  have HST := Lib.hid hstep
                  clear hstep hmo e1 hki
                  have hsm := St_small HW.out (n := m) (i := i) hsl (by omega)
                  have hsll : s < (St xs m s i).length := by rw [hsm.len]; exact hsl
                  have HSM := Lib.hid hsm
                  clear hsm
                  have y0 : wr.cell? ⟨bt, 0, none⟩ = some (.int .i64 (q : Int)) := (KX.out.cell 0).trans (by simp)
                  have y1 : wr.cell? ⟨bt, 1, none⟩ = some (.int .i64 (r : Int)) := (KX.out.cell 1).trans (by simp)
                  have p1 : (0 : Int) ≤ (i : Int) := by omega
                  have p2 : (i : Int) < ((ctorsL xs (tyAt s)).length : Int) := by omega
                  go_wp2_with fail
                  refine (impl_ofCtor xs HW.out (St xs m s i) HSM.out q r k hql hrl hk' wr _ F w.heap.size (ArrDt.below HX.out hB HF.out) (HF.out.mono hB.size) HS.out).mono ?_
                  rintro e w5 ⟨rfl, hb5⟩
                  have hB5 := hB.trans (hb5.mono hB.size)
                  have HS5 := Lib.hid (HS.out.same (hb5.block _ hgl))
                  have KX5 := Lib.hid (KX.out.same (hb5.block _ hbl))
                  have HA5 : Hid (Arr w5 (NatR w5) (ctorsL xs (tyAt s)) (.slice (some ⟨b7, off7, none⟩) (ctorsL xs (tyAt s)).length cap3) F3 ∧ Under w5.heap.size F3) := ⟨ArrNat.below HA.out.1 hb5 HA.out.2, HA.out.2.mono hb5.size⟩
                  clear c7 y0 y1 hb5
                  have HDI : Hid (depthIn (St xs m s i) ⟨(q : Int), (r : Int)⟩ = (St xs m s i)[s]) := by
                    have e := HSE.out
                    subst e
                    exact depthIn_data hsll
                  have hdp := HSM.out.dep ⟨(q : Int), (r : Int)⟩
                  rw [HDI.out] at hdp
                  have hbet : better (St xs m s i) s (mostIn xs (St xs m s i) ⟨(q : Int), (r : Int)⟩ (k : Int)) = (decide (0 < mostIn xs (St xs m s i) ⟨(q : Int), (r : Int)⟩ (k : Int)) && (decide ((St xs m s i)[s] = 0) || decide (mostIn xs (St xs m s i) ⟨(q : Int), (r : Int)⟩ (k : Int) < (St xs m s i)[s]))) := by
                    unfold better; rw [getD_get hsll]
                  generalize hm : mostIn xs (St xs m s i) ⟨(q : Int), (r : Int)⟩ (k : Int) = n at *
                  have HMM := Lib.hid hm
                  generalize hold : (St xs m s i)[s] = old at *
                  have HOLD := Lib.hid hold
                  clear hm hold
                  have y0 : w5.cell? ⟨bt, 0, none⟩ = some (.int .i64 (q : Int)) := (KX5.out.cell 0).trans (by simp)
                  have y1 : w5.cell? ⟨bt, 1, none⟩ = some (.int .i64 (r : Int)) := (KX5.out.cell 1).trans (by simp)
                  have hb5l := KX5.out.lt
                  have hg5l := HS5.out.lt
                  by_cases h0 : 0 < n
                  · have t0 : decide (n > 0) = true := by simpa using h0
                    go_wp2_with fail
                    refine (impl_of xs.length hn4 (St xs m s i) HSM.out ⟨(q : Int), (r : Int)⟩ (.inr ⟨q, r, rfl, hql, hrl⟩) _ w.heap.size HS5.out).mono ?_
                    rintro e w6 ⟨rfl, hb6⟩
                    rw [HDI.out]
                    have hB6 := hB5.trans (hb6.mono hB5.size)
                    have HS6 := Lib.hid (HS5.out.same (hb6.block _ HS5.out.lt))
                    have KX6 := Lib.hid (KX5.out.same (hb6.block _ KX5.out.lt))
                    have HA6 : Hid (Arr w6 (NatR w6) (ctorsL xs (tyAt s)) (.slice (some ⟨b7, off7, none⟩) (ctorsL xs (tyAt s)).length cap3) F3 ∧ Under w6.heap.size F3) := ⟨ArrNat.below HA5.out.1 hb6 HA5.out.2, HA5.out.2.mono hb6.size⟩
                    clear hb6 y0 y1 hb5l hg5l
                    have y0 : w6.cell? ⟨bt, 0, none⟩ = some (.int .i64 (q : Int)) := (KX6.out.cell 0).trans (by simp)
                    have y1 : w6.cell? ⟨bt, 1, none⟩ = some (.int .i64 (r : Int)) := (KX6.out.cell 1).trans (by simp)
                    have hb5l := KX6.out.lt
                    have hg5l := HS6.out.lt
                    by_cases h1 : old = 0
                    · have t1 : (old == 0) = true := by simp [h1]
                      have hb1 : better (St xs m s i) s n = true := by rw [hbet, decide_eq_true h0, decide_eq_true h1]; rfl
                      clear hbet h1
                      have hsp := HSM.out.pos s
                      have HMV := Lib.hid (movedB_put (St_le hsl) hsll hb1 hsp)
                      have z0 : w6.cell? ⟨w.heap.size, q * 4 + r, none⟩ = some (.int .i64 old) := by rw [HSE.out, ← HOLD.out]; exact HS6.out.cell hsll
                      have zf : w6.frozen? ⟨w.heap.size, q * 4 + r, none⟩ = false := Blk.frozen HS6.out _
                      have HS9 : Hid (Tab (w6.setCell ⟨w.heap.size, q * 4 + r, none⟩ (.int .i64 n)) w.heap.size (St xs m s (i + 1))) := by
                        rw [HSE.out]
                        have h := HS6.out.set hsll n
                        rw [← putIf_yes hb1, ← HST.out] at h
                        exact h
                      have KX9 : Hid (Blk (w6.setCell ⟨w.heap.size, q * 4 + r, none⟩ (.int .i64 n)) bt 33 #[.int .i64 (q : Int), .int .i64 (r : Int)]) := KX6.out.same (Below.heap_setCell _ _ _ _ (fun e => HNE.out e.symm))
                      have HA9 : Hid (Arr (w6.setCell ⟨w.heap.size, q * 4 + r, none⟩ (.int .i64 n)) (NatR (w6.setCell ⟨w.heap.size, q * 4 + r, none⟩ (.int .i64 n))) (ctorsL xs (tyAt s)) (.slice (some ⟨b7, off7, none⟩) (ctorsL xs (tyAt s)).length cap3) F3 ∧ Under (w6.setCell ⟨w.heap.size, q * 4 + r, none⟩ (.int .i64 n)).heap.size F3) := ⟨ArrNat.kept HA6.out.1 (Kept.set (Kept.refl _ _) HN3.out), HA6.out.2.mono (by simp [World.setCell])⟩
                      have hB9 : Below w.heap.size w (w6.setCell ⟨w.heap.size, q * 4 + r, none⟩ (.int .i64 n)) := hB6.setCell (Nat.le_refl _) _
                      have HC9 : Hid (movedB (sweeps xs m) (St xs m s (i + 1)) = true) := by rw [HST.out]; exact HMV.out
                      clear hb1 hsp
                      go_wp2
                      go_roundw
                      case rel => exact ⟨i + 1, true, by omega, by go_num, rfl, HC9, HS9, KX9, HA9, hB9⟩
                      case measure => (simp [intOf] <;> omega)
                    · have t1 : (old == 0) = false := by simpa using h1
                      go_wp2_with fail
                      refine (impl_of xs.length hn4 (St xs m s i) HSM.out ⟨(q : Int), (r : Int)⟩ (.inr ⟨q, r, rfl, hql, hrl⟩) _ w.heap.size HS6.out).mono ?_
                      rintro e w7 ⟨rfl, hb7⟩
                      rw [HDI.out]
                      have hB7 := hB6.trans (hb7.mono hB6.size)
                      have HS7 := Lib.hid (HS6.out.same (hb7.block _ HS6.out.lt))
                      have KX7 := Lib.hid (KX6.out.same (hb7.block _ KX6.out.lt))
                      have HA7 : Hid (Arr w7 (NatR w7) (ctorsL xs (tyAt s)) (.slice (some ⟨b7, off7, none⟩) (ctorsL xs (tyAt s)).length cap3) F3 ∧ Under w7.heap.size F3) := ⟨ArrNat.below HA6.out.1 hb7 HA6.out.2, HA6.out.2.mono hb7.size⟩
                      clear hb7 y0 y1 hb5l hg5l
                      have y0 : w7.cell? ⟨bt, 0, none⟩ = some (.int .i64 (q : Int)) := (KX7.out.cell 0).trans (by simp)
                      have y1 : w7.cell? ⟨bt, 1, none⟩ = some (.int .i64 (r : Int)) := (KX7.out.cell 1).trans (by simp)
                      have hb5l := KX7.out.lt
                      have hg5l := HS7.out.lt
                      by_cases h2 : n < old
                      · have hb1 : better (St xs m s i) s n = true := by rw [hbet, decide_eq_true h0, decide_eq_true h2, Bool.or_true]; rfl
                        clear hbet h1
                        have hsp := HSM.out.pos s
                        have HMV := Lib.hid (movedB_put (St_le hsl) hsll hb1 hsp)
                        have z0 : w7.cell? ⟨w.heap.size, q * 4 + r, none⟩ = some (.int .i64 old) := by rw [HSE.out, ← HOLD.out]; exact HS7.out.cell hsll
                        have zf : w7.frozen? ⟨w.heap.size, q * 4 + r, none⟩ = false := Blk.frozen HS7.out _
                        have HS9 : Hid (Tab (w7.setCell ⟨w.heap.size, q * 4 + r, none⟩ (.int .i64 n)) w.heap.size (St xs m s (i + 1))) := by
                          rw [HSE.out]
                          have h := HS7.out.set hsll n
                          rw [← putIf_yes hb1, ← HST.out] at h
                          exact h
                        have KX9 : Hid (Blk (w7.setCell ⟨w.heap.size, q * 4 + r, none⟩ (.int .i64 n)) bt 33 #[.int .i64 (q : Int), .int .i64 (r : Int)]) := KX7.out.same (Below.heap_setCell _ _ _ _ (fun e => HNE.out e.symm))
                        have HA9 : Hid (Arr (w7.setCell ⟨w.heap.size, q * 4 + r, none⟩ (.int .i64 n)) (NatR (w7.setCell ⟨w.heap.size, q * 4 + r, none⟩ (.int .i64 n))) (ctorsL xs (tyAt s)) (.slice (some ⟨b7, off7, none⟩) (ctorsL xs (tyAt s)).length cap3) F3 ∧ Under (w7.setCell ⟨w.heap.size, q * 4 + r, none⟩ (.int .i64 n)).heap.size F3) := ⟨ArrNat.kept HA7.out.1 (Kept.set (Kept.refl _ _) HN3.out), HA7.out.2.mono (by simp [World.setCell])⟩
                        have hB9 : Below w.heap.size w (w7.setCell ⟨w.heap.size, q * 4 + r, none⟩ (.int .i64 n)) := hB7.setCell (Nat.le_refl _) _
                        have HC9 : Hid (movedB (sweeps xs m) (St xs m s (i + 1)) = true) := by rw [HST.out]; exact HMV.out
                        clear hb1 hsp
                        go_wp2
                        go_roundw
                        case rel => exact ⟨i + 1, true, by omega, by go_num, rfl, HC9, HS9, KX9, HA9, hB9⟩
                        case measure => (simp [intOf] <;> omega)
                      · have hb1 : better (St xs m s i) s n = false := by rw [hbet, decide_eq_false h1, decide_eq_false h2]; simp
                        clear hbet h1
                        have HS9 : Hid (Tab w7 w.heap.size (St xs m s (i + 1))) := by
                          have h := HS7.out
                          rw [← movedB_not hb1, ← HST.out] at h
                          exact h
                        have HC9 : Hid (movedB (sweeps xs m) (St xs m s (i + 1)) = c) := by
                          have h := HC.out
                          rw [← movedB_not hb1, ← HST.out] at h
                          exact h
                        clear hb1
                        go_wp2
                        go_roundw
                        case rel => exact ⟨i + 1, c, by omega, by go_num, rfl, HC9, HS9, KX7, HA7, hB7⟩
                        case measure => (simp [intOf] <;> omega)
                  · have t0 : decide (n > 0) = false := by simp; omega
                    have hb1 : better (St xs m s i) s n = false := by rw [hbet, decide_eq_false h0]; rfl
                    clear hbet
                    have HS9 : Hid (Tab w5 w.heap.size (St xs m s (i + 1))) := by
                      have h := HS5.out
                      rw [← movedB_not hb1, ← HST.out] at h
                      exact h
                    have HC9 : Hid (movedB (sweeps xs m) (St xs m s (i + 1)) = c) := by
                      have h := HC.out
                      rw [← movedB_not hb1, ← HST.out] at h
                      exact h
                    clear hb1
                    go_wp2
                    go_roundw
                    case rel => exact ⟨i + 1, c, by omega, by go_num, rfl, HC9, HS9, KX5, HA5, hB5⟩
                    case measure => (simp [intOf] <;> omega)
                · have HT2 : Hid (Tab wr w.heap.size (sweepTo xs (sweeps xs m) (q * 4 + (r + 1)))) := by
                    have h := HS.out
                    rw [St_all (by omega), ← HSE.out] at h
                    exact h
                  have HC2 : Hid (movedB (sweeps xs m) (sweepTo xs (sweeps xs m) (q * 4 + (r + 1))) = c) := by
                    have h := HC.out
                    rw [St_all (by omega), ← HSE.out] at h
                    exact h
                  go_wp2
                  go_roundw
                  case rel => exact ⟨r + 1, c, by omega, by go_num, rfl, HC2, HT2, hB⟩
                  case measure => (simp [intOf] <;> omega)
            · have t9 : decide ((r : Int) ≤ 3) = false := by simp; omega
              have HT2 : Hid (Tab wr w.heap.size (sweepTo xs (sweeps xs m) ((q + 1) * 4))) := by
                have h := HT.out
                rw [show q * 4 + r = (q + 1) * 4 by omega] at h
                exact h
              have HC2 : Hid (movedB (sweeps xs m) (sweepTo xs (sweeps xs m) ((q + 1) * 4)) = c) := by
                have h := HCV.out
                rw [show q * 4 + r = (q + 1) * 4 by omega] at h
                exact h
              go_wp2
              go_roundw
              case rel => exact ⟨q + 1, by omega, by go_num, (by rw [HC2.out]), HT2, hB⟩
              case measure => (simp [intOf] <;> omega)
        · have HT2 : Hid (Tab wr w.heap.size (sweeps xs (m + 1))) := by
            have h := HT.out
            rw [show q * 4 = xs.length * 4 by omega] at h
            exact h
          generalize hcv : movedB (sweeps xs m) (sweepTo xs (sweeps xs m) (q * 4)) = cb
          have hfix : cb = false → sweep xs (sweeps xs (m + 1)) = sweeps xs (m + 1) := fun h => by
            rw [h, movedB_iff, show q * 4 = xs.length * 4 by omega] at hcv
            have e : sweeps xs (m + 1) = sweeps xs m := hcv
            rw [e]; exact hcv
          have hmv : cb = true → m + 1 ≤ xs.length * 4 + 1 := fun h => by
            have := moved_le HW.out (m := m) (fun e => by
              have e2 : movedB (sweeps xs m) (sweepTo xs (sweeps xs m) (q * 4)) = false := movedB_iff.2 (by rw [show q * 4 = xs.length * 4 by omega]; exact e)
              rw [hcv, h] at e2
              cases e2)
            omega
          have HFIX := Lib.hid hfix
          have HMV := Lib.hid hmv
          clear hfix hmv hcv
          go_wp2
          go_roundg (gk - 1)
          case rel => exact ⟨m + 1, cb, by omega, rfl, HFIX, HMV.out, HT2, hB⟩
          case measure => omega
end Go.Proofs.Ytbejcgknjnhdpaa

namespace Go.Proofs.Ytbejcgknjnhdpaa
open Go.RowKit

theorem depthL_no {xs : List Dt} {t : Ty} (h : typeValidB xs t = false) : depthL xs t = 0 := if_neg (by simp [h])
theorem depthL_yes {xs : List Dt} {t : Ty} (h : typeValidB xs t = true) : depthL xs t = depthIn (tableL xs) t := if_pos h
def posB (n : Int) : Bool := decide (0 < n)
theorem tableL_small {xs : List Dt} (hw : WorldOK xs) : Small xs.length (tableL xs) := table_small hw (by have := hw.len; omega)
theorem ret_pair {k : IntKind} {a b : Int} {c d : Bool} (h : a = b) (h2 : c = d) : Ending.returned (.tuple #[.int k a, .bool c]) = .returned (.tuple #[.int k b, .bool d]) := by rw [h, h2]
set_option maxRecDepth 100000 in
set_option maxHeartbeats 1600000 in
theorem spec_LeastDepth (xs : List Dt) (t : Ty) (w : World) (v : Value) (F : List Nat) (hx : Arr w (DtR w) xs v F) (hf : Under w.heap.size F) :
    Calls Try.prog 24 #[v, .agg #[.int .i64 t.d, .int .i64 t.i]] w fun e w' => e = .returned (.tuple #[.int .i64 (depthL xs t), .bool (posB (depthL xs t))]) ∧ Below w.heap.size w w' := by
  obtain ⟨A, cap, rfl, hc1, hc2⟩ := hx.form
  have HX := Lib.hid hx
  have HF := Lib.hid hf
  clear hx hf
  go_enter Try.func24, Try.ntmps24
  go_wp2_with fail
  obtain ⟨W2, hW2⟩ : ∃ W2, W2 = w.alloc (.cells #[.int .i64 t.d, .int .i64 t.i] 33) := ⟨_, rfl⟩
  have hB2 : Below w.heap.size w W2 := by rw [hW2]; exact (Below.refl _ _).alloc (Nat.le_refl _) _
  have k1 : Blk W2 w.heap.size 33 #[.int .i64 t.d, .int .i64 t.i] := by rw [hW2]; exact Blk.new _ _ _
  rw [← hW2]
  clear hW2
  refine (spec_TypeValid xs t W2 _ F (ArrDt.below HX.out hB2 HF.out) (HF.out.mono hB2.size)).mono ?_
  rintro e w3 ⟨rfl, hb3⟩
  have hB3 := hB2.trans (hb3.mono hB2.size)
  have k2 := k1.same (hb3.block _ k1.lt)
  have x0 : w3.cell? ⟨w.heap.size, 0, none⟩ = some (.int .i64 t.d) := (k2.cell 0).trans (by simp)
  have x1 : w3.cell? ⟨w.heap.size, 1, none⟩ = some (.int .i64 t.i) := (k2.cell 1).trans (by simp)
  have hlt := k2.lt
  clear k1 k2 hb3
  cases h1 : typeValidB xs t with
  | false =>
    have hf := Lib.hid (depthL_no h1)
    clear h1
    go_wp2
    go_ret2
    exact ⟨ret_pair hf.out.symm (by rw [hf.out]; rfl), hB3⟩
  | true =>
    have hf := Lib.hid (depthL_yes h1)
    obtain ⟨hw, hto⟩ := typeValid_split h1
    have HW := Lib.hid hw
    have HT := Lib.hid (typeOkB_tyIn hto)
    clear h1 hw hto
    go_wp2_with fail
    have hkeep : ∀ U U' : World, (U.cell? ⟨w.heap.size, 0, none⟩ = some (.int .i64 t.d) ∧ U.cell? ⟨w.heap.size, 1, none⟩ = some (.int .i64 t.i)) → Below U.heap.size U U' → w3.heap.size ≤ U.heap.size → (U'.cell? ⟨w.heap.size, 0, none⟩ = some (.int .i64 t.d) ∧ U'.cell? ⟨w.heap.size, 1, none⟩ = some (.int .i64 t.i)) := fun U U' h hUU hU => ⟨(hUU.cell (Nat.lt_of_lt_of_le (hlt) hU)).trans h.1, (hUU.cell (Nat.lt_of_lt_of_le (hlt) hU)).trans h.2⟩
    have HKeep := Lib.hid hkeep
    clear hkeep
    go_region_held3 (fun w' => w'.cell? ⟨w.heap.size, 0, none⟩ = some (.int .i64 t.d) ∧ w'.cell? ⟨w.heap.size, 1, none⟩ = some (.int .i64 t.i)) (first | assumption | (exact ⟨x0, x1⟩) | (exact HKeep.out w3.drew w4 ⟨x0, x1⟩ hb4 (Nat.le_refl _)) | (exact HKeep.out w4 w5 (by assumption) hb5 hlew4)) (first | (go_at_call 47; ((with_reducible refine (spec_l1Table xs HW.out _ _ F (ArrDt.below HX.out hB3.drew HF.out) (HF.out.mono hB3.drew.size)).mono ?_); rintro e w4 ⟨v4, F4, rfl, hb4, ha4, -, hfs4⟩); have hlew4 : w3.heap.size ≤ w4.heap.size := hb4.size) | (go_at_call 46; ((with_reducible refine (spec_l1Depth xs.length HW.out.len (tableL xs) (tableL_small HW.out) t HT.out _ _ F4 ha4 hfs4.under).mono ?_); rintro e w5 ⟨rfl, hb5⟩)))
    have hB5 := (hB3.drew.trans (hb4.mono hB3.drew.size)).trans (hb5.mono (hB3.drew.trans (hb4.mono hB3.drew.size)).size)
    generalize hdd : depthIn (tableL xs) t = n at *
    have HDD := Lib.hid hdd
    clear hdd
    go_wp2
    go_ret2
    exact ⟨ret_pair hf.out.symm (by rw [hf.out]; rfl), hB5⟩


set_option maxRecDepth 100000 in
set_option maxHeartbeats 1600000 in
theorem impl_LeastDepth (xs : List Dt) (t : Ty) (w : World) (v : Value) (F : List Nat) (hx : Arr w (DtR w) xs v F) (hf : Under w.heap.size F) :
    Calls Try.prog 23 #[v, .agg #[.int .i64 t.d, .int .i64 t.i]] w fun e w' => e = .returned (.tuple #[.int .i64 (depthL xs t), .bool (posB (depthL xs t))]) ∧ Below w.heap.size w w' := by
  obtain ⟨A, cap, rfl, hc1, hc2⟩ := hx.form
  have HX := Lib.hid hx
  have HF := Lib.hid hf
  clear hx hf
  go_enter Try.func23, Try.ntmps23
  go_wp2_with fail
  obtain ⟨W2, hW2⟩ : ∃ W2, W2 = w.alloc (.cells #[.int .i64 t.d, .int .i64 t.i] 33) := ⟨_, rfl⟩
  have hB2 : Below w.heap.size w W2 := by rw [hW2]; exact (Below.refl _ _).alloc (Nat.le_refl _) _
  have k1 : Blk W2 w.heap.size 33 #[.int .i64 t.d, .int .i64 t.i] := by rw [hW2]; exact Blk.new _ _ _
  rw [← hW2]
  clear hW2
  refine (impl_TypeValid xs t W2 _ F (ArrDt.below HX.out hB2 HF.out) (HF.out.mono hB2.size)).mono ?_
  rintro e w3 ⟨rfl, hb3⟩
  have hB3 := hB2.trans (hb3.mono hB2.size)
  have k2 := k1.same (hb3.block _ k1.lt)
  have x0 : w3.cell? ⟨w.heap.size, 0, none⟩ = some (.int .i64 t.d) := (k2.cell 0).trans (by simp)
  have x1 : w3.cell? ⟨w.heap.size, 1, none⟩ = some (.int .i64 t.i) := (k2.cell 1).trans (by simp)
  have hlt := k2.lt
  clear k1 k2 hb3
  cases h1 : typeValidB xs t with
  | false =>
    have hf := Lib.hid (depthL_no h1)
    clear h1
    go_wp2
    go_ret2
    exact ⟨ret_pair hf.out.symm (by rw [hf.out]; rfl), hB3⟩
  | true =>
    have hf := Lib.hid (depthL_yes h1)
    obtain ⟨hw, hto⟩ := typeValid_split h1
    have HW := Lib.hid hw
    have HT := Lib.hid (typeOkB_tyIn hto)
    clear h1 hw hto
    go_wp2_with fail
    have hkeep : ∀ U U' : World, (U.cell? ⟨w.heap.size, 0, none⟩ = some (.int .i64 t.d) ∧ U.cell? ⟨w.heap.size, 1, none⟩ = some (.int .i64 t.i)) → Below U.heap.size U U' → w3.heap.size ≤ U.heap.size → (U'.cell? ⟨w.heap.size, 0, none⟩ = some (.int .i64 t.d) ∧ U'.cell? ⟨w.heap.size, 1, none⟩ = some (.int .i64 t.i)) := fun U U' h hUU hU => ⟨(hUU.cell (Nat.lt_of_lt_of_le (hlt) hU)).trans h.1, (hUU.cell (Nat.lt_of_lt_of_le (hlt) hU)).trans h.2⟩
    have HKeep := Lib.hid hkeep
    clear hkeep
    go_region_held3 (fun w' => w'.cell? ⟨w.heap.size, 0, none⟩ = some (.int .i64 t.d) ∧ w'.cell? ⟨w.heap.size, 1, none⟩ = some (.int .i64 t.i)) (first | assumption | (exact ⟨x0, x1⟩) | (exact HKeep.out w3.drew w4 ⟨x0, x1⟩ hb4 (Nat.le_refl _)) | (exact HKeep.out w4 w5 (by assumption) hb5 hlew4)) (first | (go_at_call 44; ((with_reducible refine (impl_depthsOf xs HW.out _ _ F (ArrDt.below HX.out hB3.drew HF.out) (HF.out.mono hB3.drew.size)).mono ?_); rintro e w4 ⟨g4, rfl, hge4, ha4, hb4⟩); have hlew4 : w3.heap.size ≤ w4.heap.size := hb4.size) | (go_at_call 45; ((with_reducible refine (impl_of xs.length HW.out.len (tableL xs) (tableL_small HW.out) t HT.out _ g4 ha4).mono ?_); rintro e w5 ⟨rfl, hb5⟩)))
    have hB5 := (hB3.drew.trans (hb4.mono hB3.drew.size)).trans (hb5.mono (hB3.drew.trans (hb4.mono hB3.drew.size)).size)
    generalize hdd : depthIn (tableL xs) t = n at *
    have HDD := Lib.hid hdd
    clear hdd
    go_wp2
    go_ret2
    exact ⟨ret_pair hf.out.symm (by rw [hf.out]; rfl), hB5⟩

set_option maxRecDepth 100000 in
set_option maxHeartbeats 1600000 in
theorem impl_Inhabited (xs : List Dt) (t : Ty) (w : World) (v : Value) (F : List Nat) (hx : Arr w (DtR w) xs v F) (hf : Under w.heap.size F) :
    Calls Try.prog 25 #[v, .agg #[.int .i64 t.d, .int .i64 t.i]] w fun e w' => e = .returned (.bool (posB (depthL xs t))) ∧ Below w.heap.size w w' := by
  obtain ⟨A, cap, rfl, hc1, hc2⟩ := hx.form
  have HX := Lib.hid hx
  have HF := Lib.hid hf
  clear hx hf
  go_enter Try.func25, Try.ntmps25
  go_wp2_with fail
  have hB2 : Below w.heap.size w (w.alloc (.cells #[.int .i64 t.d, .int .i64 t.i] 33)) := (Below.refl _ _).alloc (Nat.le_refl _) _
  refine (impl_LeastDepth xs t _ _ F (ArrDt.below HX.out hB2 HF.out) (HF.out.mono hB2.size)).mono ?_
  rintro e w3 ⟨rfl, hb3⟩
  have hB3 := hB2.trans (hb3.mono hB2.size)
  generalize hbb : posB (depthL xs t) = bb
  have HBB := Lib.hid hbb
  clear hbb
  go_wp2
  go_ret
  exact ⟨ret_bool HBB.out.symm, hB3⟩
end Go.Proofs.Ytbejcgknjnhdpaa

namespace Go.Proofs.Ytbejcgknjnhdpaa
open Go.RowKit

theorem argTy_ok {n : Int} {a : Ty} {r : Int} (h : argOkB n a = true) (h0 : 0 ≤ r) (h3 : r ≤ 3) : typeOkB n (argTy r a) = true := by
  unfold argOkB at h
  cases hi : (a.i == -1) with
  | true =>
    rw [argTy_yes hi]
    rw [beq_iff_eq] at hi
    split at h
    · rw [beq_iff_eq] at h; omega
    · rename_i hd
      rw [Bool.and_eq_true] at h
      unfold typeOkB
      rw [if_neg hd, h.1, Bool.true_and, withinB_iff]
      exact ⟨h0, h3⟩
  | false =>
    rw [argTy_no hi]
    rw [beq_eq_false_iff_ne] at hi
    unfold typeOkB
    split at h
    · rename_i hd
      rw [if_pos hd]; exact h
    · rename_i hd
      rw [Bool.and_eq_true, withinB_iff a.i] at h
      rw [if_neg hd, h.1, Bool.true_and, withinB_iff]
      omega
theorem resIdx_range {n : Nat} {c : Kt} (hc : KtOk n c) {i : Int} (h0 : 0 ≤ i) (h3 : i ≤ 3) : 0 ≤ resIdx c i ∧ resIdx c i ≤ 3 := by
  unfold resIdx
  split
  · exact ⟨h0, h3⟩
  · exact ⟨hc.lo, hc.hi⟩
theorem typeOkB_data {n : Int} {t : Ty} (h : typeOkB n t = true) (hd : ¬ t.d = -1) : 0 ≤ t.i ∧ t.i ≤ 3 := by
  unfold typeOkB at h
  rw [if_neg hd, Bool.and_eq_true] at h
  exact (withinB_iff _ _ _).1 h.2
/-- what a listed constructor is -/
theorem ctorsOfL_at {xs : List Dt} {t : Ty} {k : Int} (h : hasB (ctorsOfL xs t) k = true) : typeValidB xs t = true ∧ WorldOK xs ∧ ∃ (d m : Nat) (hd : d < xs.length) (hm : m < xs[d].ctors.length), t.d = (d : Int) ∧ k = (m : Int) ∧ argTypesL xs t k = argsL xs[d].ctors[m] t.i ∧ 0 ≤ t.i ∧ t.i ≤ 3 := by
  obtain ⟨e, hw, d, m, hd, h1, h2, hm⟩ := argTypesL_yes h
  have hv : typeValidB xs t = true := by
    rw [hasB_iff] at h
    unfold ctorsOfL at h
    split at h
    · assumption
    · cases h
  obtain ⟨-, hto⟩ := typeValid_split hv
  have hi := typeOkB_data hto (by omega)
  refine ⟨hv, hw, d, m, hd, hm, h1, h2, ?_, hi⟩
  obtain ⟨t1, t2⟩ := t
  simp only at h1
  subst h1 h2
  rw [e, argsOf_get hd hm]
theorem argTypesL_valid {xs : List Dt} {t : Ty} {k : Int} {a : Ty} (ha : a ∈ argTypesL xs t k) : typeValidB xs a = true := by
  cases h : hasB (ctorsOfL xs t) k with
  | false => rw [argTypesL_no h] at ha; cases ha
  | true =>
    obtain ⟨hv, hw, d, m, hd, hm, h1, h2, e, h0, h3⟩ := ctorsOfL_at h
    rw [e] at ha
    obtain ⟨b, hb, rfl⟩ := List.mem_map.1 ha
    have hr := resIdx_range (hw.ctor hd hm) h0 h3
    unfold typeValidB at hv ⊢
    rw [Bool.and_eq_true] at hv ⊢
    exact ⟨hv.1, argTy_ok ((hw.ctor hd hm).all b hb) hr.1 hr.2⟩
theorem argTy_d (r : Int) (a : Ty) : (argTy r a).d = a.d := by unfold argTy; split <;> rfl
theorem argTy_i {r : Int} {a : Ty} (h : 0 < a.i) : (argTy r a).i = a.i := by
  rw [argTy_no (by rw [beq_eq_false_iff_ne]; omega)]
end Go.Proofs.Ytbejcgknjnhdpaa

namespace Go.Proofs.Ytbejcgknjnhdpaa
open Go.RowKit

def MInv (tab : List Int) (ar : List Ty) (k : Nat) (f : Bool) (m : Int) : Prop := 0 ≤ m ∧ m ≤ 100000 ∧ (f = true → mostGo tab 0 ar = mostGo tab m (ar.drop k)) ∧ (f = false → mostGo tab 0 ar = 0)
theorem MInv.zero (tab : List Int) (ar : List Ty) : MInv tab ar 0 true 0 := ⟨by omega, by omega, fun _ => rfl, fun h => by cases h⟩
theorem MInv.next {tab : List Int} {ar : List Ty} {k : Nat} {f f' : Bool} {m m' D : Int} (h : MInv tab ar k f m) (hk : k < ar.length) (hD : D = depthIn tab ar[k]) (h0 : 0 ≤ D) (h1 : D ≤ 100000) (hf : f' = (f && posB D)) (hm : m' = if D > m then D else m) : MInv tab ar (k + 1) f' m' := by
  obtain ⟨a1, a2, a3, a4⟩ := h
  have hm' : 0 ≤ m' ∧ m' ≤ 100000 ∧ m' = max m D := by subst hm; split <;> omega
  refine ⟨hm'.1, hm'.2.1, fun e => ?_, fun e => ?_⟩
  · rw [hf, Bool.and_eq_true] at e
    have hp : 0 < D := by simpa [posB] using e.2
    rw [a3 e.1, List.drop_eq_getElem_cons hk]
    show (if depthIn tab ar[k] = 0 then (0 : Int) else mostGo tab (max m (depthIn tab ar[k])) (ar.drop (k + 1))) = _
    rw [← hD, if_neg (by omega), hm'.2.2]
  · cases hff : f with
    | false => exact a4 hff
    | true =>
      rw [hff, Bool.true_and] at hf
      have hp : posB D = false := by rw [← hf]; exact e
      have hz : D = 0 := by
        have : ¬ 0 < D := by simpa [posB] using hp
        omega
      rw [a3 hff, List.drop_eq_getElem_cons hk]
      show (if depthIn tab ar[k] = 0 then (0 : Int) else _) = _
      rw [← hD, if_pos hz]
theorem MInv.done {tab : List Int} {ar : List Ty} {k : Nat} {f : Bool} {m : Int} (h : MInv tab ar k f m) (hk : ar.length ≤ k) : mostGo tab 0 ar = if f = true then m + 1 else 0 := by
  obtain ⟨a1, a2, a3, a4⟩ := h
  cases hf : f with
  | true => rw [a3 hf, List.drop_of_length_le hk]; rfl
  | false => rw [a4 hf]; rfl
def BInv (M : Int → Int) (ls : List Int) (i : Nat) (b : Int) : Prop := b = bestTo ((ls.take i).map M)
theorem BInv.next {M : Int → Int} {ls : List Int} {i : Nat} {b b' mm : Int} (h : BInv M ls i b) (hi : i < ls.length) (hm : M ls[i] = mm) (hb : b' = bestOf b mm) : BInv M ls (i + 1) b' := by
  unfold BInv at h ⊢
  rw [take_snoc' ls i hi, List.map_append, List.map_cons, List.map_nil, bestTo_snoc, ← h, hm]
  exact hb
theorem BInv.done {M : Int → Int} {ls : List Int} {i : Nat} {b : Int} (h : BInv M ls i b) (hi : ls.length ≤ i) : b = bestTo (ls.map M) := by
  unfold BInv at h
  rwa [List.take_of_length_le hi] at h
theorem bestOf_none (b : Int) : bestOf b 0 = b := by unfold bestOf; rw [if_neg (by omega)]
theorem bestOf_first {m : Int} (h : m ≠ 0) : bestOf 0 m = m := by unfold bestOf; rw [if_pos ⟨h, .inl rfl⟩]
theorem bestOf_less {b m : Int} (h : m ≠ 0) (hl : m < b) : bestOf b m = m := by unfold bestOf; rw [if_pos ⟨h, .inr hl⟩]
theorem bestOf_more {b m : Int} (hb : b ≠ 0) (hl : ¬ m < b) : bestOf b m = b := by unfold bestOf; rw [if_neg (by omega)]
theorem argDepth {xs : List Dt} {t : Ty} {n : Int} {a : Ty} (ha : a ∈ argTypesL xs t n) : depthL xs a = depthIn (tableL xs) a ∧ 0 ≤ depthL xs a ∧ depthL xs a ≤ 100000 := by
  have hv := argTypesL_valid ha
  have hw := (typeValid_split hv).1
  rw [depthL_yes hv]
  have h := (tableL_small hw).dep a
  exact ⟨rfl, h.1, h.2⟩
end Go.Proofs.Ytbejcgknjnhdpaa

namespace Go.Proofs.Ytbejcgknjnhdpaa
open Go.RowKit

set_option maxRecDepth 100000 in
set_option maxHeartbeats 1600000 in
theorem ptInts_same (xs : List Int) (w : World) (F F2 : List Nat) (x y : Value) (hx : Arr w (NatR w) xs x F) (hy : Arr w (NatR w) xs y F2) (hf : Under w.heap.size F) (hg : Under w.heap.size F2) :
    Calls Try.prog 15 #[x, y] w fun e w' => e = .returned (.bool true) ∧ Below w.heap.size w w' := by
  obtain ⟨A, cap, rfl, hc1, hc2⟩ := hx.form
  obtain ⟨A', cap', rfl, hc3, hc4⟩ := hy.form
  have HX := Lib.hid hx
  have HF := Lib.hid hf
  have HY := Lib.hid hy
  have HG := Lib.hid hg
  clear hx hf hy hg
  go_enter Try.func15, Try.ntmps15
  go_wp2
  go_loopw [5] (fun i wr => ∃ k : Nat, k ≤ xs.length ∧ i = .int .i64 k ∧ Below w.heap.size w wr) (fun i _ => xs.length - (intOf i).toNat)
  case atStart => exact ⟨0, Nat.zero_le _, rfl, Below.refl _ _⟩
  case round =>
    obtain ⟨k, hk, rfl, hB⟩ := hrel
    by_cases hlt : k < xs.length
    · have g1 : (0 : Int) ≤ (k : Int) := by omega
      have g2 : (k : Int) < (xs.length : Int) := by omega
      obtain ⟨b, off, rfl⟩ := HX.out.ptr (by omega)
      obtain ⟨b2, off2, rfl⟩ := HY.out.ptr (by omega)
      obtain ⟨hb, c0⟩ := ArrNat.at HX.out HF.out hB k hlt
      obtain ⟨hb2, d0⟩ := ArrNat.at HY.out HG.out hB k hlt
      have HBq := Lib.hid (fun n => below_drewN hB n)
      go_wp2_with fail
      go_quiet (fail)
      go_wp2
      go_roundw
      case rel => exact ⟨k + 1, by omega, by go_num, HBq.out _⟩
      case measure => (simp [intOf] <;> omega)
    · go_wp2
      go_ret
      exact ⟨rfl, hB⟩

set_option maxRecDepth 100000 in
set_option maxHeartbeats 1600000 in
theorem ptIn_any (xs : List Int) (n : Int) (w : World) (x : Value) (F : List Nat) (hx : Arr w (NatR w) xs x F) (hf : Under w.heap.size F) :
    Calls Try.prog 18 #[x, .int .i64 n] w fun e w' => e = .returned (.bool (hasB xs n)) ∧ Below w.heap.size w w' := by
  obtain ⟨A, cap, rfl, hc1, hc2⟩ := hx.form
  have HX := Lib.hid hx
  have HF := Lib.hid hf
  clear hx hf
  go_enter Try.func18, Try.ntmps18
  go_wp2
  go_loopw [5] (fun i wr => ∃ k : Nat, k ≤ xs.length ∧ i = .int .i64 k ∧ Hid (hasB xs n = (xs.drop k).any fun x => n == x) ∧ Below w.heap.size w wr) (fun i _ => xs.length - (intOf i).toNat)
  case atStart => exact ⟨0, Nat.zero_le _, rfl, (show hasB xs n = hasB xs n from rfl), Below.refl _ _⟩
  case round =>
    obtain ⟨k, hk, rfl, HT, hB⟩ := hrel
    by_cases hlt : k < xs.length
    · have g1 : (0 : Int) ≤ (k : Int) := by omega
      have g2 : (k : Int) < (xs.length : Int) := by omega
      obtain ⟨b, off, rfl⟩ := HX.out.ptr (by omega)
      obtain ⟨hb, c0⟩ := ArrNat.at HX.out HF.out hB k hlt
      have hd := HT.out
      rw [any_drop _ xs k hlt] at hd
      cases hq : (xs[k] == n) with
      | true =>
        have hq2 : (n == xs[k]) = true := by rw [beq_iff_eq] at hq ⊢; exact hq.symm
        rw [hq2, Bool.true_or] at hd
        have hf := Lib.hid hd
        clear hd hq2
        go_wp2
        go_ret
        exact ⟨ret_bool hf.out.symm, hB⟩
      | false =>
        have hq2 : (n == xs[k]) = false := by rw [beq_eq_false_iff_ne] at hq ⊢; exact fun e => hq e.symm
        rw [hq2, Bool.false_or] at hd
        have HT2 := Lib.hid hd
        clear hd hq2
        go_wp2
        go_roundw
        case rel => exact ⟨k + 1, by omega, by go_num, HT2, hB⟩
        case measure => (simp [intOf] <;> omega)
    · have hd := HT.out
      rw [List.drop_of_length_le (by omega)] at hd
      have hf := Lib.hid hd
      clear hd
      go_wp2
      go_ret
      exact ⟨ret_bool hf.out.symm, hB⟩
end Go.Proofs.Ytbejcgknjnhdpaa

namespace Go.Proofs.Ytbejcgknjnhdpaa
open Go.ChangeShapes Go.WideShapes Go.ChangeAt Go.RowKit

section
variable {H : Type} {enc : TypeId × Value → H} {P : Program} {w : World} {base : Nat} {spare : Nat → Bool} {held : Bool}

theorem cell_lt {w : World} {a : Addr} {v : Value} (h : w.cell? a = some v) : a.block < w.heap.size := by
  rcases Nat.lt_or_ge a.block w.heap.size with hl | hl
  · exact hl
  · unfold World.cell? at h
    rw [Array.getElem?_eq_none hl] at h
    cases h

theorem open_Arr {α : Type} (R : α → List Value → List Nat → Prop) {t e : TypeId} {k n fuel : Nat} {cs : List Value} {x : DataW H × List MemPlace} (ht : P.underlying t = some (.slice e)) (hk : P.cellsOf e = k) (hk0 : 0 < k) (hf : fuel = n + 1)
    (hR : ∀ ds y, DataW.trod enc P w base spare held n e ds = some y → ds.length = k → ∃ a F, R a ds F ∧ Under w.heap.size F)
    (h : DataW.trod enc P w base spare held fuel t cs = some x) : ∃ xs v F, cs = [v] ∧ Arr w R xs v F ∧ Under w.heap.size F := by
  subst hf
  rcases DataW.trod_slice ht h with ⟨rfl, -⟩ | ⟨a, len, cap, elems, rest, m, hm, rfl, -, -, hl, hmax, hlen, hel, -, -⟩
  · exact ⟨[], _, [], rfl, Arr.nil, Under.nil _⟩
  · obtain rfl : n = m := by omega
    by_cases h0 : len = 0
    · subst h0
      exact ⟨[], _, [], rfl, ⟨_, _, rfl, hl, hmax, .inl ⟨rfl, rfl⟩⟩, Under.nil _⟩
    · have get : ∀ i, i < len → ∃ ds y, (∀ j, j < k → w.cell? (a.add (i * k + j)) = ds[j]?) ∧ ds.length = k ∧ DataW.trod enc P w base spare held n e ds = some y := fun i hi => by
        have h1 := hel i hi
        rw [List.getElem?_eq_getElem (by omega), Option.bind_eq_some_iff] at h1
        obtain ⟨ds, h2, h3⟩ := h1
        obtain ⟨-, h4, h5⟩ := World.cells?_some h2
        rw [hk] at h4 h5
        refine ⟨ds, _, fun j hj => ?_, h4, h3⟩
        rw [← h5 j hj]
        congr 1
        unfold Addr.add
        by_cases e1 : i * k = 0 <;> by_cases e2 : j = 0 <;> simp [e1, e2, Nat.add_assoc]
      obtain ⟨b, off, spot⟩ := a
      obtain ⟨ds0, y0, g1, g2, -⟩ := get 0 (by omega)
      have hc0 : w.cell? ⟨b, off, spot⟩ = some (ds0[0]'(by omega)) := by
        have := g1 0 hk0
        simpa [Addr.add, List.getElem?_eq_getElem (show 0 < ds0.length by omega)] using this
      have hspot : spot = none := by simpa using World.cell?_spot hc0
      subst hspot
      have hb : b < w.heap.size := cell_lt hc0
      have key : ∀ m, m ≤ len → ∃ (xs : List α) (cs : List Value) (F : List Nat), xs.length = m ∧ cs.length = m * k ∧ CellsAt w b off cs ∧ Flat R xs cs F ∧ Under w.heap.size F := by
        intro m
        induction m with
        | zero => intro _; exact ⟨[], [], [], rfl, by simp, fun j u hj => by simp at hj, ⟨rfl, rfl⟩, Under.nil _⟩
        | succ m ih =>
          intro hm
          obtain ⟨xs, cs, F, h1, h2, h3, h4, h5⟩ := ih (by omega)
          obtain ⟨ds, y, g1, g2, g3⟩ := get m (by omega)
          obtain ⟨z, G, r1, r2⟩ := hR ds y g3 g2
          refine ⟨xs ++ [z], cs ++ ds, F ++ G, by simp [h1], by simp [h2, g2, Nat.add_mul], h3.append (fun j u hj => ?_), h4.append (Flat.one r1), fun c hc => ?_⟩
          · have hjk : j < k := by rw [← g2]; exact (List.getElem?_eq_some_iff.1 hj).1
            have := g1 j hjk
            rw [hj, Addr.add_lit] at this
            rw [h2, ← this]
            congr 2
            omega
          · rcases List.mem_append.1 hc with hc | hc
            · exact h5 c hc
            · exact r2 c hc
      obtain ⟨xs, cs, F, h1, h2, h3, h4, h5⟩ := key len (Nat.le_refl _)
      refine ⟨xs, _, b :: F, rfl, ⟨_, _, by rw [h1], by omega, hmax, .inr ⟨b, off, cs, F, rfl, h3, h4, rfl⟩⟩, fun c hc => ?_⟩
      rcases List.mem_cons.1 hc with rfl | hc
      · exact hb
      · exact h5 c hc

theorem one_field {fs : Array Field} {n : Nat} {cs : List Value} {xs : List (DataW H × List MemPlace)}
    (hf : ∀ (i : Nat) (f : Field), fs[i]? = some f → DataW.trod enc P w base spare held n f.type ((cs.drop f.offset).take (P.cellsOf f.type)) = xs[i]?)
    (hone : Deep.oneCellFields P fs = true) (hxl : xs.length = fs.size) (i : Nat) (f : Field) (hi : fs[i]? = some f) (c : Value) (hc : cs[i]? = some c) :
    ∃ y, DataW.trod enc P w base spare held n f.type [c] = some y := by
  obtain ⟨h1, h2⟩ := Deep.hone_of hone i f hi
  have h := hf i f hi
  have hlt : i < fs.size := (Array.getElem?_eq_some_iff.1 hi).1
  rw [List.getElem?_eq_getElem (show i < xs.length by omega), h1, h2] at h
  obtain ⟨hlc, hcc⟩ := List.getElem?_eq_some_iff.1 hc
  rw [List.drop_eq_getElem_cons hlc, hcc] at h
  exact ⟨_, h⟩

theorem sub_field {fs : Array Field} {n : Nat} {cs : List Value} {xs : List (DataW H × List MemPlace)}
    (hf : ∀ (i : Nat) (f : Field), fs[i]? = some f → DataW.trod enc P w base spare held n f.type ((cs.drop f.offset).take (P.cellsOf f.type)) = xs[i]?)
    (hxl : xs.length = fs.size) (i : Nat) (f : Field) (hi : fs[i]? = some f) (k off : Nat) (hk : P.cellsOf f.type = k) (ho : f.offset = off) :
    ∃ y, DataW.trod enc P w base spare held n f.type ((cs.drop off).take k) = some y := by
  have h := hf i f hi
  have hlt : i < fs.size := (Array.getElem?_eq_some_iff.1 hi).1
  rw [List.getElem?_eq_getElem (show i < xs.length by omega), hk, ho] at h
  exact ⟨_, h⟩

theorem open_slice_arg {α : Type} (R : α → List Value → List Nat → Prop) {t e : TypeId} {k : Nat} {r : Reach} {b0 : Nat} {v : Value} {d : DataW H} {ps : List MemPlace} (ht : P.underlying t = some (.slice e)) (hk : P.cellsOf e = k) (hk0 : 0 < k)
    (hR : ∀ n ds y, DataW.trod enc P w base spare held n e ds = some y → ∃ a F, R a ds F ∧ Under w.heap.size F)
    (hval : Value.okWide P w r b0 t v) (h : DataW.Trod enc P w base spare held t v d ps) : ∃ xs F, Arr w R xs v F ∧ Under w.heap.size F := by
  obtain ⟨a, len, cap, rfl⟩ := okWide_slice ht hval
  obtain ⟨fuel, hf⟩ := h
  cases fuel with
  | zero => simp [DataW.trod] at hf
  | succ n =>
    obtain ⟨xs, v, F, hv, ha, hF⟩ := open_Arr R ht hk hk0 rfl (fun ds y hd _ => hR n ds y hd) hf
    have : v = .slice a len cap := by simpa [Value.cells] using hv.symm
    subst this
    exact ⟨xs, F, ha, hF⟩
end
end Go.Proofs.Ytbejcgknjnhdpaa

namespace Go.Proofs.Ytbejcgknjnhdpaa
open Go.ChangeShapes Go.WideShapes Go.ChangeAt Go.RowKit
set_option maxRecDepth 100000

theorem cellsOf_u8 : Try.prog.cellsOf 5 = 1 := by kernel_rfl
theorem open_By_cells {H : Type} {enc : TypeId × Value → H} {w : World} {base : Nat} {spare : Nat → Bool} {held : Bool} (fuel : Nat) (cs : List Value) (x : DataW H × List MemPlace)
    (h : DataW.trod enc Try.prog w base spare held fuel 5 cs = some x) : ∃ v F, ByR w v cs F ∧ Under w.heap.size F := by
  cases fuel with
  | zero => simp [DataW.trod] at h
  | succ n =>
  obtain ⟨i0, e0, -, e2⟩ := DataW.trod_int Try.underlying5 h
  have hw : IntKind.u8.min ≤ i0 ∧ i0 ≤ IntKind.u8.max := by simpa [Lit.wf] using e2
  have h0 : IntKind.u8.min = 0 := rfl
  have h1 : IntKind.u8.max = 255 := rfl
  exact ⟨i0, [], ⟨e0, rfl, by omega, by omega⟩, Under.nil _⟩
theorem open_Bytes {H : Type} {enc : TypeId × Value → H} {w : World} {base : Nat} {spare : Nat → Bool} {held : Bool} {r : Reach} {b0 : Nat} {v : Value} {d : DataW H} {ps : List MemPlace} (hval : Value.okWide Try.prog w r b0 22 v)
    (h : DataW.Trod enc Try.prog w base spare held 22 v d ps) : ∃ (x : List Int) (F : List Nat), Arr w (ByR w) x v F ∧ Under w.heap.size F :=
  open_slice_arg (ByR w) Try.underlying22 cellsOf_u8 (by decide) (fun n ds y hd => open_By_cells n ds y hd) hval h
end Go.Proofs.Ytbejcgknjnhdpaa
