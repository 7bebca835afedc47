/-
  Lemmas and contracts of functions: Sweeps over a table of least depths reach a fixed point: as many as there are entries and one more are enough. Conditions: the world is valid. The constructors that can make values of a type, in plain Lean. Conditions: none. Least depths in plain Lean: the least depth of a type is that of a constructor; any index is no deeper than a given one. Conditions: the world is valid. Values as Lean data, and how they lie in memory. Conditions: none. Values of a type, in plain Lean; a value in a list. Conditions: none. Least values, in plain Lean. Conditions: the world is valid. Writing every part of a datum anew (mark) and reading it back (held): what changes in memory. Conditions: none. A node of a tree under construction: its cells lie in a block, its kids are appended one by one. Conditions: none. l2Fits of the reference: a value fits a type. Conditions: the world is valid, the depth is no more than 10. The law of append on slices of the call's own, at a step of a region that draws its order. Conditions: none. A node of a tree under construction, as in Kid: its kids' row may begin anywhere behind the node. Values as nodes. Conditions: none. Patterns as Lean data, and how they lie in memory. Conditions: none. The pattern that only a value matches, in plain Lean. Conditions: none. Regions that draw their order: a load may be taken first whose cell is written in the region, if what writes it waits for the load (operation d, which comes after the load). Conditions: none. The pattern of a value: the walks of both functions. Conditions: no more than a million nodes. l1Slot, l1Depth, l1Most of the reference: depths by a table. Conditions: the world is valid, the entries are small. depths.of and depths.ofCtor of the program. Conditions: the world is valid, the entries are small. l1Table of the reference. Conditions: the world is valid. depthsOf of the program. Conditions: the world is valid. LeastDepth and Inhabited of both. Conditions: none. A least value of a type: the walk of the program. Conditions: the world is valid, the type has values. A least value of a type: the walk of the reference. Conditions: the world is valid, the type has values. The reader of drawn numbers. Conditions: it has given no more than a million. Parsing of worlds, in plain Lean, as the reference has it. Conditions: none. Texts of worlds, in plain Lean, as the reference has them; the fixed texts are those of valid worlds. Conditions: none. Texts split at a byte: plain laws. Conditions: none. l17Cut of the reference: a text split at every byte c. Conditions: the text is not longer than a million bytes. Numbers and texts out of lists by the reader. Conditions: the reader has given no more than a million numbers. l1Some of the reference: a drawn type. Conditions: the reader has given no more than 900000 numbers. A node of a tree under construction, as in Kid2, where the calls draw numbers from a reader. Conditions: none. l1Find and l1ParseType of the reference. Conditions: the text is not too long. What l1ParseCtor of the reference gives, in plain Lean. Conditions: none.
-/
import Derived.Test.YtilndhmegaccmaaKAA
import Derived.Deep.RegionHeld3
import Derived.Deep.RegionWith
import Derived.Deep.QuietTactic
import Derived.BigQuiet
import Derived.IntWalk
import Derived.WalkLawsBesides
import Derived.Laws.OwnMore
import Derived.Deep.LoopGhost
import Derived.Test.YtilndhmegaccmaaChecked
import Derived.Laws.BitsAllLaws

set_option linter.unusedVariables false
set_option linter.unusedSimpArgs false

namespace Go.Proofs.Ytilndhmegaccmaa
open Go.RowKit
open Classical

/-- from level n on no further type gets a value -/
def Stable (xs : List Dt) (n : Nat) : Prop := ∀ s, s < xs.length * 4 → hasD xs (n + 1) (tyAt s) → hasD xs n (tyAt s)
theorem stable_step {xs : List Dt} (hw : WorldOK xs) {n : Nat} (hn : 1 ≤ n) (h : Stable xs n) : Stable xs (n + 1) := by
  intro s hs hh
  rcases hh with hh | ⟨k, hk, ha⟩
  · exact .inl hh
  · refine .inr ⟨k, hk, fun a hm => ?_⟩
    have hai := argsOf_in hw (tyAt_in hs) hk hm
    by_cases e : a.d = -1
    · obtain ⟨m, rfl⟩ : ∃ m, n = m + 1 := ⟨n - 1, by omega⟩
      exact .inl e
    · obtain ⟨q1, q2⟩ := hai.slot e
      have := h _ q1 (by rw [q2]; exact ha a hm)
      rwa [q2] at this
noncomputable def lvl (xs : List Dt) (n : Nat) : Nat := ((List.range (xs.length * 4)).filter fun s => decide (hasD xs n (tyAt s))).length
theorem filter_lt {p q : Nat → Bool} : ∀ (l : List Nat), (∀ x ∈ l, p x = true → q x = true) → (∃ x ∈ l, q x = true ∧ p x = false) → (l.filter p).length < (l.filter q).length
  | [], _, h => by obtain ⟨x, hx, -⟩ := h; cases hx
  | y :: l, h, ⟨x, hx, h1, h2⟩ => by
    have hle : ∀ l : List Nat, (∀ x ∈ l, p x = true → q x = true) → (l.filter p).length ≤ (l.filter q).length := by
      intro l
      induction l with
      | nil => intro _; exact Nat.le_refl _
      | cons z l ih =>
        intro hl
        have := ih fun x hx => hl x (by simp [hx])
        have hz := hl z (by simp)
        cases hp : p z with
        | true => rw [List.filter_cons_of_pos hp, List.filter_cons_of_pos (hz hp)]; simp only [List.length_cons]; omega
        | false =>
          rw [List.filter_cons_of_neg (by simp [hp])]
          cases hq : q z with
          | true => rw [List.filter_cons_of_pos hq]; simp only [List.length_cons]; omega
          | false => rw [List.filter_cons_of_neg (by simp [hq])]; exact this
    have hrest := hle l fun x hx => h x (by simp [hx])
    rcases List.mem_cons.1 hx with rfl | hx
    · rw [List.filter_cons_of_neg (by simp [h2]), List.filter_cons_of_pos h1]; simp only [List.length_cons]; omega
    · have ih := filter_lt l (fun x hx => h x (by simp [hx])) ⟨x, hx, h1, h2⟩
      have hy := h y (by simp)
      cases hp : p y with
      | true => rw [List.filter_cons_of_pos hp, List.filter_cons_of_pos (hy hp)]; simp only [List.length_cons]; omega
      | false =>
        rw [List.filter_cons_of_neg (by simp [hp])]
        cases hq : q y with
        | true => rw [List.filter_cons_of_pos hq]; simp only [List.length_cons]; omega
        | false => rw [List.filter_cons_of_neg (by simp [hq])]; exact ih
theorem lvl_lt {xs : List Dt} {n : Nat} (h : ¬ Stable xs n) : lvl xs n < lvl xs (n + 1) := by
  unfold Stable at h
  obtain ⟨s, h⟩ := Classical.not_forall.1 h
  obtain ⟨hs, h⟩ := Classical.not_imp.1 h
  obtain ⟨h1, h2⟩ := Classical.not_imp.1 h
  unfold lvl
  refine filter_lt _ (fun x _ hx => ?_) ⟨s, List.mem_range.2 hs, by simp [h1], by simp [h2]⟩
  simp only [decide_eq_true_eq] at hx ⊢
  exact hasD_mono hx
theorem lvl_le (xs : List Dt) (n : Nat) : lvl xs n ≤ xs.length * 4 := by
  unfold lvl
  exact Nat.le_trans (List.length_filter_le _ _) (by simp)
theorem stable_ex {xs : List Dt} : ∀ n, (∃ m, 1 ≤ m ∧ m ≤ n ∧ Stable xs m) ∨ n ≤ lvl xs (n + 1)
  | 0 => .inr (Nat.zero_le _)
  | n + 1 => by
    rcases stable_ex (xs := xs) n with ⟨m, h1, h2, h3⟩ | h
    · exact .inl ⟨m, h1, by omega, h3⟩
    · by_cases hs : Stable xs (n + 1)
      · exact .inl ⟨n + 1, by omega, Nat.le_refl _, hs⟩
      · have := lvl_lt hs
        exact .inr (by omega)
theorem stable_max {xs : List Dt} (hw : WorldOK xs) : Stable xs (xs.length * 4 + 1) := by
  rcases stable_ex (xs := xs) (xs.length * 4 + 1) with ⟨m, h1, h2, h3⟩ | h
  · have key : ∀ k, m ≤ k → Stable xs k := by
      intro k hk
      induction hk with
      | refl => exact h3
      | step hk ih => exact stable_step hw (Nat.le_trans h1 hk) ih
    exact key _ h2
  · have := lvl_le xs (xs.length * 4 + 1 + 1)
    omega
theorem hasD_max {xs : List Dt} (hw : WorldOK xs) {s : Nat} (hs : s < xs.length * 4) : ∀ {n : Nat}, hasD xs n (tyAt s) → hasD xs (xs.length * 4 + 1) (tyAt s) := by
  have hst : ∀ k, Stable xs (xs.length * 4 + 1 + k) := by
    intro k
    induction k with
    | zero => exact stable_max hw
    | succ k ih => exact stable_step hw (n := xs.length * 4 + 1 + k) (by omega) ih
  have down : ∀ k, hasD xs (xs.length * 4 + 1 + k) (tyAt s) → hasD xs (xs.length * 4 + 1) (tyAt s) := by
    intro k
    induction k with
    | zero => exact id
    | succ k ih => exact fun h => ih (hst k s hs h)
  intro n h
  exact down n (hasD_le h (by omega))

/-- a table differs from the one that a sweep began with -/
def movedB (t cur : List Int) : Bool := !(cur == t)
theorem movedB_not {cur : List Int} {s : Nat} {n : Int} (hb : better cur s n = false) : putIf cur s n = cur := by unfold putIf; rw [if_neg (by simp [hb])]
theorem putIf_yes {cur : List Int} {s : Nat} {n : Int} (hb : better cur s n = true) : putIf cur s n = cur.set s n := if_pos hb
/-- what LeastDepth gives -/
def depthL (xs : List Dt) (t : Ty) : Int := if typeValidB xs t = true then depthIn (tableL xs) t else 0
end Go.Proofs.Ytilndhmegaccmaa

namespace Go.Proofs.Ytilndhmegaccmaa
open Go.RowKit

end Go.Proofs.Ytilndhmegaccmaa

namespace Go.Proofs.Ytilndhmegaccmaa
open Go.RowKit

theorem tableL_done {xs : List Dt} (hw : WorldOK xs) (n : Nat) : Done xs (tableL xs) n := fun s hs h => by
  rcases Nat.le_total n (xs.length * 4 + 1) with hn | hn
  · exact (done_sweeps hw n).le (le_sweeps' hn) s hs h
  · have := done_sweeps hw (xs.length * 4 + 1) s hs (hasD_max hw hs h)
    exact ⟨this.1, by have h2 := this.2; show (sweeps xs (xs.length * 4 + 1)).getD s 0 ≤ (n : Int); omega⟩
theorem depthIn_done {xs : List Dt} (hw : WorldOK xs) {a : Ty} (ha : TyIn xs.length a) {n : Nat} (h : hasD xs n a) : depthIn (tableL xs) a ≠ 0 ∧ depthIn (tableL xs) a ≤ n := by
  have hn : 1 ≤ n := by
    cases n with
    | zero => exact h.elim
    | succ n => omega
  by_cases e : a.d = -1
  · unfold depthIn
    rw [if_pos e]
    omega
  · obtain ⟨h1, h2⟩ := ha.slot e
    have := tableL_done hw n (slotOf a) h1 (by rw [h2]; exact h)
    unfold depthIn
    rw [if_neg e]
    exact this
theorem sound_tableL {xs : List Dt} (hw : WorldOK xs) : Sound xs (tableL xs) := sound_sweeps hw _
theorem mostIn_nonneg {xs : List Dt} (hw : WorldOK xs) (t : Ty) (k : Int) : 0 ≤ mostIn xs (tableL xs) t k := by
  have key : ∀ (ls : List Ty) (m : Int), 0 ≤ m → 0 ≤ mostGo (tableL xs) m ls := by
    intro ls
    induction ls with
    | nil => intro m h; simp only [mostGo]; omega
    | cons a ls ih =>
      intro m h
      simp only [mostGo]
      split
      · omega
      · exact ih _ (by omega)
  exact key _ _ (Int.le_refl _)
theorem least_le {xs : List Dt} (hw : WorldOK xs) {t : Ty} (ht : TyIn xs.length t) {k : Int} (hk : k ∈ ctorsL xs t) (hm : mostIn xs (tableL xs) t k ≠ 0) : depthIn (tableL xs) t ≠ 0 ∧ depthIn (tableL xs) t ≤ mostIn xs (tableL xs) t k := by
  have hs := sound_tableL hw
  have hne := mostGo_ne hm
  have hp := mostGo_pos hs.dpos (Int.le_refl 0) hne
  have h0 : 0 < mostIn xs (tableL xs) t k := hp.1
  have := depthIn_done hw ht (n := (mostIn xs (tableL xs) t k - 1).toNat + 1) (.inr ⟨k, hk, fun a ha => by
    refine hasD_le (hs.dhas (argsOf_in hw ht hk ha) (hne a ha)) ?_
    have := hp.2 a ha
    have h2 : mostGo (tableL xs) 0 (argsOf xs t k) = mostIn xs (tableL xs) t k := rfl
    omega⟩)
  exact ⟨this.1, by have h2 := this.2; omega⟩
theorem least_ex {xs : List Dt} (hw : WorldOK xs) {t : Ty} (ht : TyIn xs.length t) (hd : ¬ t.d = -1) (h : depthIn (tableL xs) t ≠ 0) : ∃ k ∈ ctorsL xs t, mostIn xs (tableL xs) t k ≠ 0 ∧ mostIn xs (tableL xs) t k ≤ depthIn (tableL xs) t := by
  have hs := sound_tableL hw
  have h0 := hs.dpos t
  have hh := hs.dhas ht h
  obtain ⟨m, hm⟩ : ∃ m, (depthIn (tableL xs) t).toNat = m + 1 := ⟨(depthIn (tableL xs) t).toNat - 1, by omega⟩
  rw [hm] at hh
  rcases hh with hh | ⟨k, hk, ha⟩
  · exact absurd hh hd
  · have hall : ∀ a ∈ argsOf xs t k, depthIn (tableL xs) a ≠ 0 ∧ depthIn (tableL xs) a ≤ (m : Int) := fun a hm => depthIn_done hw (argsOf_in hw ht hk hm) (ha a hm)
    have h1 : mostIn xs (tableL xs) t k ≤ (m : Int) + 1 := mostGo_le (by omega) hall
    have h2 : 0 < mostIn xs (tableL xs) t k := (mostGo_pos hs.dpos (Int.le_refl 0) fun a ha => (hall a ha).1).1
    exact ⟨k, hk, by omega, by omega⟩

/-! ### The least of some numbers, where 0 stands for none -/
def bestOf (b m : Int) : Int := if m ≠ 0 ∧ (b = 0 ∨ m < b) then m else b
def bestTo (ms : List Int) : Int := ms.foldl bestOf 0
/-! ### Any index is no deeper -/
end Go.Proofs.Ytilndhmegaccmaa

namespace Go.Proofs.Ytilndhmegaccmaa
open Go.RowKit

structure V where
  c : Int
  n : Int
  ks : List V

theorem V.ind {p : V → Prop} (h : ∀ c n ks, (∀ k ∈ ks, p k) → p ⟨c, n, ks⟩) : ∀ v, p v
  | ⟨c, n, ks⟩ => h c n ks fun k hk => V.ind h k
termination_by v => SizeOf.sizeOf v
decreasing_by
  have := List.sizeOf_lt_of_mem hk
  simp
  omega

mutual
def V.size : V → Nat
  | ⟨_, _, ks⟩ => V.sizes ks
def V.sizes : List V → Nat
  | [] => 0
  | k :: ks => 1 + V.size k + V.sizes ks
end

def V.subs : List V → Nat
  | [] => 0
  | k :: ks => k.size + V.subs ks
theorem V.subs_snoc (l : List V) (x : V) : V.subs (l ++ [x]) = V.subs l + x.size := by
  induction l with
  | nil => simp [V.subs]
  | cons k l ih => simp only [List.cons_append, V.subs, ih]; omega
theorem V.sizes_eq (l : List V) : V.sizes l = l.length + V.subs l := by
  induction l with
  | nil => rfl
  | cons k l ih => simp only [V.sizes, V.subs, List.length_cons, ih]; omega
theorem V.subs_take_le (l : List V) (k : Nat) : V.subs (l.take k) ≤ V.subs l := by
  induction l generalizing k with
  | nil => simp [V.subs]
  | cons x l ih =>
    cases k with
    | zero => simp [V.subs]
    | succ k => simp only [List.take_succ_cons, V.subs]; have := ih k; omega
theorem V.subs_take_succ (l : List V) (k : Nat) (h : k < l.length) : V.subs (l.take (k + 1)) = V.subs (l.take k) + l[k].size := by
  rw [take_snoc' l k h, V.subs_snoc]
mutual
def VR (w : World) : V → List Value → List Nat → Prop
  | ⟨c, n, ks⟩, cs, F => ∃ A cap, cs = [.int .i64 c, .int .i64 n, .slice A ks.length cap] ∧ ks.length ≤ cap ∧ cap ≤ maxLen ∧ ((ks = [] ∧ F = []) ∨ ∃ b off ds G, A = some ⟨b, off, none⟩ ∧ CellsAt w b off ds ∧ VRs w ks ds G ∧ F = b :: G)
def VRs (w : World) : List V → List Value → List Nat → Prop
  | [], cs, F => cs = [] ∧ F = []
  | x :: xs, cs, F => ∃ c1 c2 F1 F2, cs = c1 ++ c2 ∧ F = F1 ++ F2 ∧ VR w x c1 F1 ∧ VRs w xs c2 F2
end

theorem VRs_eq (w : World) (ks : List V) : ∀ cs F, VRs w ks cs F ↔ Flat (VR w) ks cs F := by
  induction ks with
  | nil => intro cs F; simp [VRs, Flat]
  | cons k ks ih =>
    intro cs F
    simp only [VRs, Flat, ih]

theorem VR_iff {w : World} (v : V) (cs : List Value) (F : List Nat) : VR w v cs F ↔ ∃ kv, cs = [.int .i64 v.c, .int .i64 v.n, kv] ∧ Arr w (VR w) v.ks kv F := by
  obtain ⟨c, n, ks⟩ := v
  simp only [VR, Arr, VRs_eq]
  constructor
  · rintro ⟨A, cap, rfl, h1, h2, h3⟩
    exact ⟨_, rfl, A, cap, rfl, h1, h2, h3⟩
  · rintro ⟨kv, rfl, A, cap, rfl, h1, h2, h3⟩
    exact ⟨A, cap, rfl, h1, h2, h3⟩

theorem VR_len {w : World} (v : V) (cs : List Value) (F : List Nat) (h : VR w v cs F) : cs.length = 3 := by
  obtain ⟨kv, rfl, -⟩ := (VR_iff _ _ _).1 h
  rfl

theorem VR.mono {w w' : World} : ∀ v cs F, Kept F w w' → VR w v cs F → VR w' v cs F := by
  refine V.ind fun c n ks ih cs F hF h => ?_
  rw [VR_iff] at h ⊢
  obtain ⟨kv, rfl, h⟩ := h
  exact ⟨kv, rfl, h.mono hF ih⟩

theorem VR.below {w w' : World} {B : Nat} {v : V} {cs : List Value} {F : List Nat} (h : VR w v cs F) (hb : Below B w w') (hF : Under B F) : VR w' v cs F := VR.mono v cs F (.of_below hb hF) h

theorem VR.drew {w : World} {v : V} {cs : List Value} {F : List Nat} (h : VR w v cs F) : VR w.drew v cs F := VR.mono (w := w) v cs F (fun _ _ => rfl) h
theorem VR.drewN {w : World} {v : V} {cs : List Value} {F : List Nat} (h : VR w v cs F) (n : Nat) : VR (w.drewN n) v cs F := VR.mono (w := w) v cs F (fun _ _ => rfl) h

theorem ArrV.mono {w w' : World} {vs : List V} {x : Value} {F : List Nat} (h : Arr w (VR w) vs x F) (hF : Kept F w w') : Arr w' (VR w') vs x F := h.mono hF fun v _ => VR.mono v
theorem ArrV.below {w w' : World} {B : Nat} {vs : List V} {x : Value} {F : List Nat} (h : Arr w (VR w) vs x F) (hb : Below B w w') (hF : Under B F) : Arr w' (VR w') vs x F := ArrV.mono h (.of_below hb hF)

end Go.Proofs.Ytilndhmegaccmaa

namespace Go.Proofs.Ytilndhmegaccmaa
open Go.RowKit

theorem ArrV.at {w0 w : World} {b off n cap : Nat} {F : List Nat} {xs : List V} (h : Arr w0 (VR w0) xs (.slice (some ⟨b, off, none⟩) n cap) F) (hF : Under w0.heap.size F) (hB : Below w0.heap.size w0 w) (i : Nat) (hi : i < xs.length) :
    ∃ A1 cap1 G, b < w.heap.size ∧ w.cell? ⟨b, off + i * 3, none⟩ = some (.int .i64 xs[i].c) ∧ w.cell? ⟨b, off + i * 3 + 1, none⟩ = some (.int .i64 xs[i].n) ∧ w.cell? ⟨b, off + i * 3 + 2, none⟩ = some (.slice A1 xs[i].ks.length cap1) ∧
      Hid (VR w0 xs[i] [.int .i64 xs[i].c, .int .i64 xs[i].n, .slice A1 xs[i].ks.length cap1] G) ∧ Hid (Under w0.heap.size G) ∧ (∀ b ∈ G, b ∈ F) ∧ xs[i].ks.length ≤ cap1 ∧ cap1 ≤ 9223372036854775807 := by
  obtain ⟨b', off', cs, G, e, hb, hcs, hv, hG⟩ := h.get VR_len hi
  cases e
  have hbl := hF _ hb
  have hc := hcs.same (hB.block _ hbl)
  obtain ⟨kv, rfl, ha⟩ := (VR_iff _ _ _).1 hv
  obtain ⟨A1, cap1, rfl, h1, h2⟩ := ha.form
  exact ⟨A1, cap1, G, Nat.lt_of_lt_of_le hbl hB.size, hc 0 _ rfl, hc 1 _ rfl, hc 2 _ rfl, hv, hF.sub hG, hG, h1, h2⟩
/-- the nodes of a value -/
def nodes (v : V) : Nat := 1 + v.size
def zipAll (f : Ty → V → Bool) : List Ty → List V → Bool
  | a :: ls, k :: ks => f a k && zipAll f ls ks
  | _, _ => true
def isNum (v : V) : Bool := (v.c == -1) && (withinB v.n 0 9 && decide (v.ks.length = 0))
/-- v is a value of type t, of depth d at most -/
def fitsV (xs : List Dt) : Nat → Ty → V → Bool
  | 0, _, _ => false
  | d + 1, t, v => if t.d = -1 then isNum v else (v.n == 0) && (hasB (ctorsL xs t) v.c && (decide (v.ks.length = (argsOf xs t v.c).length) && zipAll (fitsV xs d) (argsOf xs t v.c) v.ks))
def valueOkB (xs : List Dt) (t : Ty) (v : V) : Bool := fitsV xs 10 t v && decide (nodes v ≤ 60)
def valueValidB (xs : List Dt) (t : Ty) (v : V) : Bool := typeValidB xs t && valueOkB xs t v
end Go.Proofs.Ytilndhmegaccmaa

namespace Go.Proofs.Ytilndhmegaccmaa
open Go.RowKit

def isLeast (xs : List Dt) (t : Ty) (k : Int) : Bool := mostIn xs (tableL xs) t k == depthIn (tableL xs) t
def leastV (xs : List Dt) : Nat → Ty → V
  | 0, _ => ⟨0, 0, []⟩
  | n + 1, t => if t.d = -1 then ⟨-1, 0, []⟩ else match (ctorsL xs t).find? (isLeast xs t) with
    | none => ⟨0, 0, []⟩
    | some k => ⟨k, 0, (argsOf xs t k).map (leastV xs n)⟩
theorem find_step {p : Int → Bool} {l : List Int} {i : Nat} (h : i < l.length) : (l.drop i).find? p = if p l[i] = true then some l[i] else (l.drop (i + 1)).find? p := by
  rw [List.drop_eq_getElem_cons h, List.find?_cons]
  cases p l[i] <;> simp
theorem find_end {p : Int → Bool} {l : List Int} {i : Nat} (h : l.length ≤ i) : (l.drop i).find? p = none := by
  rw [List.drop_of_length_le h]; rfl
theorem argsOf_len3 {xs : List Dt} (hw : WorldOK xs) {t : Ty} (ht : TyIn xs.length t) {k : Int} (hk : k ∈ ctorsL xs t) : (argsOf xs t k).length ≤ 3 := by
  rcases ht with h | ⟨d, i, rfl, h1, h2⟩
  · rw [ctorsL_int h] at hk; cases hk
  · obtain ⟨d', m, e1, rfl, hd, hm⟩ := mem_ctorsL (.inr ⟨d, rfl, h1⟩) hk
    obtain rfl : d = d' := Int.ofNat.inj e1
    rw [argsOf_get hd hm, argsL_len]
    exact (hw.ctor hd hm).args
/-- the kids made so far -/
def leastTo (xs : List Dt) (n : Nat) (as' : List Ty) (i : Nat) : List V := (as'.take i).map (leastV xs n)
/-- what LeastValue gives -/
def leastFine (xs : List Dt) (t : Ty) : Bool := typeValidB xs t && (withinB (depthIn (tableL xs) t) 1 10 && valueOkB xs t (leastV xs 10 t))
def leastR (xs : List Dt) (t : Ty) : V := if leastFine xs t = true then leastV xs 10 t else ⟨0, 0, []⟩
end Go.Proofs.Ytilndhmegaccmaa

namespace Go.Proofs.Ytilndhmegaccmaa
open Go.RowKit

theorem CellsAt.nil (w : World) (b off : Nat) : CellsAt w b off [] := fun j u h => by simp at h
theorem CellsAt.cons {w : World} {b off : Nat} {a : Value} {cs : List Value} (h : w.cell? ⟨b, off, none⟩ = some a) (hc : CellsAt w b (off + 1) cs) : CellsAt w b off (a :: cs) := fun j u hj => by
  cases j with
  | zero => simp at hj; subst hj; exact h
  | succ j =>
    have := hc j u (by simpa using hj)
    rwa [show off + 1 + j = off + (j + 1) by omega] at this
theorem Kept.refl (F : List Nat) (w : World) : Kept F w w := fun _ _ => rfl
theorem Kept.set {F : List Nat} {w w' : World} {b j : Nat} {u : Value} (h : Kept F w w') (hb : b ∉ F) : Kept F w (w'.setCell ⟨b, j, none⟩ u) := fun c hc =>
  (Below.heap_setCell _ _ _ _ (fun e => hb (by rw [← show c = b from e]; exact hc))).trans (h c hc)
theorem Kept.step {F : List Nat} {w w' w'' : World} (h : Kept F w w') (hb : Below w'.heap.size w' w'') (hF : Under w'.heap.size F) : Kept F w w'' := fun c hc => (hb.block c (hF c hc)).trans (h c hc)

/-- w' differs from w in the blocks of F alone -/
structure Chg (F : List Nat) (w w' : World) : Prop where
  os : w'.os = w.os
  tape : w'.tape = w.tape
  output : w'.output = w.output
  size : w.heap.size ≤ w'.heap.size
  block : ∀ b, b < w.heap.size → b ∉ F → w'.heap[b]? = w.heap[b]?
theorem Chg.refl (F : List Nat) (w : World) : Chg F w w := ⟨rfl, rfl, rfl, Nat.le_refl _, fun _ _ _ => rfl⟩
theorem Chg.trans {F : List Nat} {a b c : World} (h : Chg F a b) (k : Chg F b c) : Chg F a c :=
  ⟨k.os.trans h.os, k.tape.trans h.tape, k.output.trans h.output, Nat.le_trans h.size k.size, fun i hi hF => (k.block i (Nat.lt_of_lt_of_le hi h.size) hF).trans (h.block i hi hF)⟩
theorem Chg.mono {F G : List Nat} {w w' : World} (h : Chg F w w') (hs : ∀ b ∈ F, b ∈ G) : Chg G w w' := ⟨h.os, h.tape, h.output, h.size, fun b hb hG => h.block b hb fun hf => hG (hs b hf)⟩
theorem Chg.of_below {F : List Nat} {w w' : World} (h : Below w.heap.size w w') : Chg F w w' := ⟨h.os, h.tape, h.output, h.size, fun b hb _ => h.block b hb⟩
theorem Chg.kept {F G : List Nat} {w w' : World} (h : Chg F w w') (hG : Under w.heap.size G) (hd : ∀ b ∈ G, b ∉ F) : Kept G w w' := fun b hb => h.block b (hG b hb) (hd b hb)
theorem Chg.below {F : List Nat} {w w' : World} {B : Nat} (h : Chg F w w') (hF : ∀ b ∈ F, B ≤ b) (hB : B ≤ w.heap.size) : Below B w w' :=
  ⟨h.os, h.tape, h.output, h.size, fun b hb => h.block b (Nat.lt_of_lt_of_le hb hB) fun hf => Nat.lt_irrefl _ (Nat.lt_of_lt_of_le hb (hF b hf))⟩

theorem Chg.set {F : List Nat} {w w' : World} {b j : Nat} {u : Value} (h : Chg F w w') (hb : b ∈ F) : Chg F w (w'.setCell ⟨b, j, none⟩ u) :=
  ⟨h.os, h.tape, h.output, Nat.le_trans h.size (by simp [World.setCell]), fun c hc hF => (Below.heap_setCell _ _ _ _ (fun e => hF (by rw [show c = b from e]; exact hb))).trans (h.block c hc hF)⟩
theorem Chg.step {F : List Nat} {w w' w'' : World} (h : Chg F w w') (hb : Below w'.heap.size w' w'') : Chg F w w'' := h.trans (.of_below hb)
theorem Chg.drew {F : List Nat} {w w' : World} (h : Chg F w w') : Chg F w w'.drew := ⟨h.os, h.tape, h.output, h.size, h.block⟩
theorem Chg.drewN {F : List Nat} {w w' : World} (h : Chg F w w') (n : Nat) : Chg F w (w'.drewN n) := ⟨h.os, h.tape, h.output, h.size, h.block⟩
theorem Chg.cell {F : List Nat} {w w' : World} (h : Chg F w w') {p : Addr} (hp : p.block < w.heap.size) (hn : p.block ∉ F) : w'.cell? p = w.cell? p := World.cell?_of_block (w := w) (h.block p.block hp hn)
theorem Chg.undrew {F : List Nat} {w w' : World} (h : Chg F w.drew w') : Chg F w w' := ⟨h.os, h.tape, h.output, h.size, h.block⟩

/-- beside the blocks of F, cells lo .. lo + n - 1 of block b may have changed -/
structure Upd (b lo n : Nat) (F : List Nat) (w w' : World) : Prop extends Chg (b :: F) w w' where
  cells : ∀ j, j < lo ∨ lo + n ≤ j → w'.cell? ⟨b, j, none⟩ = w.cell? ⟨b, j, none⟩
  froz : ∀ j, w'.frozen? ⟨b, j, none⟩ = w.frozen? ⟨b, j, none⟩
theorem Upd.refl (b lo n : Nat) (F : List Nat) (w : World) : Upd b lo n F w w := ⟨Chg.refl _ _, fun _ _ => rfl, fun _ => rfl⟩
theorem Upd.trans {b lo n : Nat} {F : List Nat} {x y z : World} (h : Upd b lo n F x y) (k : Upd b lo n F y z) : Upd b lo n F x z :=
  ⟨h.toChg.trans k.toChg, fun j hj => (k.cells j hj).trans (h.cells j hj), fun j => (k.froz j).trans (h.froz j)⟩
theorem Upd.set {b lo n : Nat} {F : List Nat} {x y : World} (h : Upd b lo n F x y) {j : Nat} (h1 : lo ≤ j) (h2 : j < lo + n) (u : Value) : Upd b lo n F x (y.setCell ⟨b, j, none⟩ u) :=
  h.trans ⟨⟨rfl, rfl, rfl, by simp [World.setCell], fun c _ hc => Below.heap_setCell _ _ _ _ (fun e => hc (by rw [e]; exact List.mem_cons_self))⟩,
    fun i hi => World.cell?_setCell_other _ _ _ _ (by intro e; injection e; omega), fun i => World.frozen?_setCell _ _ _ _⟩
theorem Upd.sub {b lo n : Nat} {F : List Nat} {x y z : World} (h : Upd b lo n F x y) (hc : Chg F y z) (hb : b ∉ F) (hlt : b < y.heap.size) : Upd b lo n F x z :=
  h.trans ⟨hc.mono fun c hc => List.mem_cons_of_mem _ hc, fun j _ => World.cell?_of_block (w := y) (a := ⟨b, j, none⟩) (hc.block b hlt hb), fun j => World.frozen?_of_block (w := y) (a := ⟨b, j, none⟩) (hc.block b hlt hb)⟩
theorem Upd.below {b lo n : Nat} {F : List Nat} {x y z : World} (h : Upd b lo n F x y) (hc : Below y.heap.size y z) (hlt : b < y.heap.size) : Upd b lo n F x z :=
  h.trans ⟨.of_below hc, fun j _ => hc.cell (p := ⟨b, j, none⟩) hlt, fun j => hc.frozen (p := ⟨b, j, none⟩) hlt⟩

section
variable {α : Type} {R : World → α → List Value → List Nat → Prop} {k : Nat}

end

/-! ### What marking makes of a list -/
def mkS {α : Type} (mk : Int → α → α) (cnt : α → Nat) : Int → List α → List α
  | _, [] => []
  | k, x :: xs => mk k x :: mkS mk cnt (k + cnt x) xs
section
variable {α : Type} {mk : Int → α → α} {cnt : α → Nat}
/-- the first i elements are marked already -/
def mkTo (mk : Int → α → α) (cnt : α → Nat) (k : Int) (xs : List α) (i : Nat) : List α := mkS mk cnt k (xs.take i) ++ xs.drop i
end
end Go.Proofs.Ytilndhmegaccmaa

namespace Go.Proofs.Ytilndhmegaccmaa
open Go.RowKit

theorem chg_under {F : List Nat} {a b c : World} (h : Chg F a b) (k : Below a.heap.size b c) : Chg F a c :=
  ⟨k.os.trans h.os, k.tape.trans h.tape, k.output.trans h.output, Nat.le_trans h.size k.size, fun i hi hF => (k.block i hi).trans (h.block i hi hF)⟩
section
variable {α : Type} {w w9 wr wA w7 : World} {D H k : Nat} {T E : TypeId} {cells : Array Value} {R : World → α → List Value → List Nat → Prop} {xs ys : List α} {v v' : Value} {F G : List Nat} {o : Obj}
end
end Go.Proofs.Ytilndhmegaccmaa

namespace Go.Proofs.Ytilndhmegaccmaa
open Go.RowKit

/-- contract of l2Fits at one value -/
def FitsS (v : V) : Prop := ∀ (xs : List Dt) (_ : WorldOK xs) (d : Nat) (_ : d ≤ 10) (t : Ty) (_ : TyIn xs.length t) (w : World) (x : Value) (F : List Nat) (cs : List Value) (G : List Nat), Arr w (DtR w) xs x F → Under w.heap.size F → VR w v cs G → Under w.heap.size G →
  Calls Try.prog 127 #[x, .agg #[.int .i64 t.d, .int .i64 t.i], .agg cs.toArray, .int .i64 (d : Int)] w fun e w' => e = .returned (.bool (fitsV xs d t v)) ∧ Below w.heap.size w w'
theorem V.indv {p : V → Prop} (h : ∀ v : V, (∀ k ∈ v.ks, p k) → p v) : ∀ v, p v := V.ind fun c n ks ih => h ⟨c, n, ks⟩ ih
end Go.Proofs.Ytilndhmegaccmaa

namespace Go.Proofs.Ytilndhmegaccmaa
open Go.RowKit

section
variable {α : Type} {w w' : World} {B k : Nat} {E : TypeId} {R : World → α → List Value → List Nat → Prop} {xs : List α} {v : Value} {F : List Nat}
variable {P : Program}
theorem step_push {ops : Array Oper} {o : Oper} {a : Act} {K : Act → World → Prop} {Q : Exit → Act → World → Prop} {EE : Prop} (hgd : o.guard = none) (s x : Operand) (t : TypeId)
    (ho : o.op = .call { callee := .builtin .append, args := #[s, x], argTypes := #[t, t] })
    (i : TypeInfo) (z : Value) (bytes : Nat) (ht : P.underlying t = some (.slice E)) (hi : P.info? E = some i) (hz : i.zero = some z)
    (hsize : i.size = k) (hby : i.bytes = bytes) (hzs : z.cells.size = k) (hk : 0 < k)
    (hRl : ∀ x cs G, R w x cs G → cs.length = k) (hRm : ∀ w' x cs G, Kept G w w' → R w x cs G → R w' x cs G)
    (hs : a.eval s = v) (hown : Own w B E k R xs v F) (ys : List α) (ad : Addr) (c : Nat) (news : List Value) (G : List Nat)
    (hx : a.eval x = .slice (some ad) ys.length c) (hnews : ∀ j u, news[j]? = some u → w.cell? (ad.add j) = some u) (h1 : ∀ u ∈ news, u.oneCell' = true)
    (hys : Flat (R w) ys news G) (hG : Under w.heap.size G) (hvG : ∀ g ∈ rowOf v, g ∉ G)
    (hm : 0 < ys.length) (h63 : xs.length + ys.length ≤ maxLen) (hbytes : (xs.length + ys.length) * bytes ≤ 140737488355328) (hbase : B ≤ w.heap.size)
    (h : ∀ g cap w', Own w' B E k R (xs ++ ys) (.slice (some ⟨g, 0, none⟩) (xs.length + ys.length) cap) (F ++ G) → w.grownBy w' v.ownBlock → (v.ownBlock = some g ∨ g = w.heap.size) →
      K (a.put o.dst (.slice (some ⟨g, 0, none⟩) (xs.length + ys.length) cap)) w') : if Region.wanted o (yielded ops a.tmps) = true then Oper.wp P o a w K Q else EE := by
  obtain ⟨cs, h2, h3, h4, h5⟩ := id hown
  refine step_append_lies w hgd s x t ho B E i z k bytes ht hi hz hsize hby hzs hk v xs.length cs hs h2 ad ys.length c news hx (hys.length hRl) hnews h1 hm h63 hbytes hbase w.heap.size rfl
    fun g cap w1 hr hgr hat hlt => h g cap w1 ⟨cs ++ news, by rw [List.length_append]; exact hr, ?_, ?_, ?_⟩ hgr hat
  · exact (h3.mono fun x _ ds H hH hr => hRm w1 x ds H (grown_kept hgr (h4.sub hH) fun g hg hn => h5 g hg (hH g hn)) hr).append (hys.mono fun x _ ds H hH hr => hRm w1 x ds H (grown_kept hgr (hG.sub hH) fun g hg hn => hvG g hg (hH g hn)) hr)
  · intro b hb
    rcases List.mem_append.1 hb with hb | hb
    · exact Nat.lt_of_lt_of_le (h4 b hb) hgr.size
    · exact Nat.lt_of_lt_of_le (hG b hb) hgr.size
  · intro b hb hbF
    rw [rowOf_some, List.mem_singleton] at hb
    subst hb
    rcases hat with hat | rfl
    · rcases List.mem_append.1 hbF with hb | hb
      · exact h5 b (mem_rowOf.2 hat) hb
      · exact hvG b (mem_rowOf.2 hat) hb
    · rcases List.mem_append.1 hbF with hb | hb
      · exact Nat.lt_irrefl _ (h4 _ hb)
      · exact Nat.lt_irrefl _ (hG _ hb)


theorem step_push1 {ops : Array Oper} {o : Oper} {a : Act} {K : Act → World → Prop} {Q : Exit → Act → World → Prop} {EE : Prop} (hgd : o.guard = none) (s x : Operand) (t : TypeId)
    (ho : o.op = .call { callee := .builtin .append, args := #[s, x], argTypes := #[t, t] })
    (i : TypeInfo) (z : Value) (bytes : Nat) (ht : P.underlying t = some (.slice E)) (hi : P.info? E = some i) (hz : i.zero = some z)
    (hsize : i.size = k) (hby : i.bytes = bytes) (hzs : z.cells.size = k) (hk : 0 < k)
    (hRl : ∀ w x cs G, R w x cs G → cs.length = k) (hRm : ∀ w w' x cs G, Kept G w w' → R w x cs G → R w' x cs G)
    (hs : a.eval s = v) (hown : Own w B E k R xs v F) (y : α) (T : TypeId) (news : List Value) (G : List Nat)
    (H : Nat) (hx : a.eval x = .slice (some ⟨H, 0, none⟩) 1 1) (hH : w.heap.size = H) (h1 : ∀ u ∈ news, u.oneCell' = true)
    (hy : R w y news G) (hG : Under w.heap.size G) (hvG : ∀ g ∈ rowOf v, g ∉ G)
    (h63 : xs.length + 1 ≤ maxLen) (hbytes : (xs.length + 1) * bytes ≤ 140737488355328) (hbase : B ≤ w.heap.size)
    (h : ∀ g cap w', Own w' B E k R (xs ++ [y]) (.slice (some ⟨g, 0, none⟩) (xs.length + 1) cap) (F ++ G) → (w.alloc (.cells news.toArray T)).grownBy w' v.ownBlock → (v.ownBlock = some g ∨ g = w.heap.size + 1) →
      K (a.put o.dst (.slice (some ⟨g, 0, none⟩) (xs.length + 1) cap)) w') : if Region.wanted o (yielded ops a.tmps) = true then Oper.wp P o a (w.alloc (.cells news.toArray T)) K Q else EE := by
  subst hH
  have hb := (Below.refl w.heap.size w).alloc (Nat.le_refl _) (.cells news.toArray T)
  have hk1 : Kept G w (w.alloc (.cells news.toArray T)) := .of_below hb hG
  refine step_push hgd s x t ho i z bytes ht hi hz hsize hby hzs hk (hRl _) (fun w' => hRm _ w') hs (hown.below (fun x cs G hk h => hRm _ _ x cs G hk h) hb) [y] ⟨w.heap.size, 0, none⟩ 1 news G hx ?_ h1 (Flat.one (hRm _ _ _ _ _ hk1 hy)) (hG.mono hb.size) hvG Nat.zero_lt_one h63 hbytes (Nat.le_trans hbase hb.size)
    (fun g cap w' h2 h3 h4 => h g cap w' h2 h3 (by simpa using h4))
  intro j u hj
  exact World.news_of_block (heap_alloc_new w (.cells news.toArray T)) j u (by simpa using hj)
end
end Go.Proofs.Ytilndhmegaccmaa

namespace Go.Proofs.Ytilndhmegaccmaa
open Go.RowKit

section
variable {α : Type} {w w9 wr wA w7 : World} {D Bz H k : Nat} {T E : TypeId} {cells : Array Value} {R : World → α → List Value → List Nat → Prop} {xs ys : List α} {v v' : Value} {F G : List Nat} {o : Obj}
end
section
variable {w w0 : World} {H B : Nat} {T : TypeId} {F : List Nat}
theorem Blk.three {b0 b1 b2 : Value} (h : Blk w H T #[b0, b1, b2]) (a0 a1 a2 : Value) : Blk (((w.setCell ⟨H, 0, none⟩ a0).setCell ⟨H, 1, none⟩ a1).setCell ⟨H, 2, none⟩ a2) H T #[a0, a1, a2] := ((h.set_ 0 a0).set_ 1 a1).set_ 2 a2
theorem kept_three (hF : ∀ b ∈ F, b ≠ H) (a0 a1 a2 : Value) : Kept F w (((w.setCell ⟨H, 0, none⟩ a0).setCell ⟨H, 1, none⟩ a1).setCell ⟨H, 2, none⟩ a2) := fun b hb => by
  have := hF b hb
  rw [Below.heap_setCell _ _ _ _ this, Below.heap_setCell _ _ _ _ this, Below.heap_setCell _ _ _ _ this]
theorem size_three (a0 a1 a2 : Value) : (((w.setCell ⟨H, 0, none⟩ a0).setCell ⟨H, 1, none⟩ a1).setCell ⟨H, 2, none⟩ a2).heap.size = w.heap.size := by simp [World.setCell]
end
theorem info_VE : (Try.prog.info? 53).map (fun i => (i.zero, i.size, i.bytes)) = some (some (.agg #[.int .i64 0, .int .i64 0, .slice none 0 0]), 3, 40) := by kernel_rfl
theorem VR_mono' (w w' : World) (x : V) (cs : List Value) (G : List Nat) (hk : Kept G w w') (h : VR w x cs G) : VR w' x cs G := VR.mono x cs G hk h
theorem VR_len' (w : World) (x : V) (cs : List Value) (G : List Nat) (h : VR w x cs G) : cs.length = 3 := VR_len x cs G h
/-- a call gives a value of its own -/
def MadeVt (v : V) (w : World) (e : Ending) (w' : World) : Prop := ∃ cs F, e = .returned (.agg cs.toArray) ∧ Below w.heap.size w w' ∧ VR w' v cs F ∧ Free w' F ∧ Fresh w w' F
end Go.Proofs.Ytilndhmegaccmaa

namespace Go.Proofs.Ytilndhmegaccmaa
open Go.RowKit

structure P where
  op : Int
  ct : Int
  n : Int
  m : Int
  va : Int
  ks : List P

theorem P.ind {p : P → Prop} (h : ∀ op ct n m va ks, (∀ k ∈ ks, p k) → p ⟨op, ct, n, m, va, ks⟩) : ∀ v, p v
  | ⟨op, ct, n, m, va, ks⟩ => h op ct n m va ks fun k hk => P.ind h k
termination_by v => SizeOf.sizeOf v
decreasing_by
  have := List.sizeOf_lt_of_mem hk
  simp
  omega

mutual
def P.size : P → Nat
  | ⟨_, _, _, _, _, ks⟩ => P.sizes ks
def P.sizes : List P → Nat
  | [] => 0
  | k :: ks => 1 + P.size k + P.sizes ks
end

def P.subs : List P → Nat
  | [] => 0
  | k :: ks => k.size + P.subs ks
theorem P.subs_snoc (l : List P) (x : P) : P.subs (l ++ [x]) = P.subs l + x.size := by
  induction l with
  | nil => simp [P.subs]
  | cons k l ih => simp only [List.cons_append, P.subs, ih]; omega
theorem P.sizes_eq (l : List P) : P.sizes l = l.length + P.subs l := by
  induction l with
  | nil => rfl
  | cons k l ih => simp only [P.sizes, P.subs, List.length_cons, ih]; omega
theorem P.subs_take_le (l : List P) (k : Nat) : P.subs (l.take k) ≤ P.subs l := by
  induction l generalizing k with
  | nil => simp [P.subs]
  | cons x l ih =>
    cases k with
    | zero => simp [P.subs]
    | succ k => simp only [List.take_succ_cons, P.subs]; have := ih k; omega
theorem P.subs_take_succ (l : List P) (k : Nat) (h : k < l.length) : P.subs (l.take (k + 1)) = P.subs (l.take k) + l[k].size := by
  rw [take_snoc' l k h, P.subs_snoc]
mutual
def PR (w : World) : P → List Value → List Nat → Prop
  | ⟨op, ct, n, m, va, ks⟩, cs, F => ∃ A cap, cs = [.int .i64 op, .int .i64 ct, .int .i64 n, .int .i64 m, .int .i64 va, .slice A ks.length cap] ∧ ks.length ≤ cap ∧ cap ≤ maxLen ∧ ((ks = [] ∧ F = []) ∨ ∃ b off ds G, A = some ⟨b, off, none⟩ ∧ CellsAt w b off ds ∧ PRs w ks ds G ∧ F = b :: G)
def PRs (w : World) : List P → List Value → List Nat → Prop
  | [], cs, F => cs = [] ∧ F = []
  | x :: xs, cs, F => ∃ c1 c2 F1 F2, cs = c1 ++ c2 ∧ F = F1 ++ F2 ∧ PR w x c1 F1 ∧ PRs w xs c2 F2
end

theorem PRs_eq (w : World) (ks : List P) : ∀ cs F, PRs w ks cs F ↔ Flat (PR w) ks cs F := by
  induction ks with
  | nil => intro cs F; simp [PRs, Flat]
  | cons k ks ih =>
    intro cs F
    simp only [PRs, Flat, ih]

theorem PR_iff {w : World} (v : P) (cs : List Value) (F : List Nat) : PR w v cs F ↔ ∃ kv, cs = [.int .i64 v.op, .int .i64 v.ct, .int .i64 v.n, .int .i64 v.m, .int .i64 v.va, kv] ∧ Arr w (PR w) v.ks kv F := by
  obtain ⟨op, ct, n, m, va, ks⟩ := v
  simp only [PR, Arr, PRs_eq]
  constructor
  · rintro ⟨A, cap, rfl, h1, h2, h3⟩
    exact ⟨_, rfl, A, cap, rfl, h1, h2, h3⟩
  · rintro ⟨kv, rfl, A, cap, rfl, h1, h2, h3⟩
    exact ⟨A, cap, rfl, h1, h2, h3⟩

theorem PR_len {w : World} (v : P) (cs : List Value) (F : List Nat) (h : PR w v cs F) : cs.length = 6 := by
  obtain ⟨kv, rfl, -⟩ := (PR_iff _ _ _).1 h
  rfl

theorem PR.mono {w w' : World} : ∀ v cs F, Kept F w w' → PR w v cs F → PR w' v cs F := by
  refine P.ind fun op ct n m va ks ih cs F hF h => ?_
  rw [PR_iff] at h ⊢
  obtain ⟨kv, rfl, h⟩ := h
  exact ⟨kv, rfl, h.mono hF ih⟩

theorem PR.below {w w' : World} {B : Nat} {v : P} {cs : List Value} {F : List Nat} (h : PR w v cs F) (hb : Below B w w') (hF : Under B F) : PR w' v cs F := PR.mono v cs F (.of_below hb hF) h

theorem PR.drew {w : World} {v : P} {cs : List Value} {F : List Nat} (h : PR w v cs F) : PR w.drew v cs F := PR.mono (w := w) v cs F (fun _ _ => rfl) h
theorem PR.drewN {w : World} {v : P} {cs : List Value} {F : List Nat} (h : PR w v cs F) (n : Nat) : PR (w.drewN n) v cs F := PR.mono (w := w) v cs F (fun _ _ => rfl) h

theorem ArrP.mono {w w' : World} {vs : List P} {x : Value} {F : List Nat} (h : Arr w (PR w) vs x F) (hF : Kept F w w') : Arr w' (PR w') vs x F := h.mono hF fun v _ => PR.mono v
theorem ArrP.below {w w' : World} {B : Nat} {vs : List P} {x : Value} {F : List Nat} (h : Arr w (PR w) vs x F) (hb : Below B w w') (hF : Under B F) : Arr w' (PR w') vs x F := ArrP.mono h (.of_below hb hF)

end Go.Proofs.Ytilndhmegaccmaa

namespace Go.Proofs.Ytilndhmegaccmaa
open Go.RowKit

mutual
def patOf : V → P
  | ⟨c, n, ks⟩ => if c = -1 then ⟨3, 0, n, n, 0, []⟩ else ⟨4, c, 0, 0, 0, patOfs ks⟩
def patOfs : List V → List P
  | [] => []
  | k :: ks => patOf k :: patOfs ks
end
def patTo (ks : List V) (i : Nat) : List P := (ks.take i).map patOf
end Go.Proofs.Ytilndhmegaccmaa

namespace Go.Proofs.Ytilndhmegaccmaa
open Go

section
variable {P : Program} {ops : Array Oper} {Q : Exit → Act → World → Prop} {md : Region.Mode} {S T : World → Prop} {d : Nat}

/-- behind every operation S holds, and T as long as operation d has not come up -/
def wpAnyB (P : Program) (md : Region.Mode) (ops : Array Oper) (Q : Exit → Act → World → Prop) (S T : World → Prop) (d : Nat) : Nat → Array Bool → Act → World → Prop
  | 0, listed, a, w => Region.ready md ops listed = [] ∧ Q .normal a w
  | fuel + 1, listed, a, w =>
    (Region.ready md ops listed = [] → Q .normal a w) ∧
    ∀ i ∈ Region.ready md ops listed, wpOp P ops Q i (fun a' w' => (S w' ∧ ((listed.setIfInBounds i true).getD d false = false → T w')) ∧ wpAnyB P md ops Q S T d fuel (listed.setIfInBounds i true) a' w') a w
theorem wpAny_of_B : ∀ (fuel : Nat) (listed : Array Bool) (a : Act) (w : World), wpAnyB P md ops Q S T d fuel listed a w → wpAny P md ops Q fuel listed a w
  | 0, _, _, _, h => h
  | fuel + 1, _, _, _, h => ⟨h.1, fun i hi => wpOp_mono (fun _ _ h' => wpAny_of_B fuel _ _ _ h'.2) (h.2 i hi)⟩
/-- an operation that yields under S alone -/
theorem wpAnyB_first {i : Nat} {oi : Oper} {v : Value} (hi : ops[i]? = some oi) (hid : i ≠ d) (hsel : ∀ (j : Nat) (o : Oper) cs b, ops[j]? = some o → o.op ≠ .select cs b)
    (hQ : ∀ c a w, Q (.panic c) (a.put oi.dst v) w → Q (.panic c) a w) :
    ∀ (fuel : Nat) (listed : Array Bool) (a : Act) (w : World),
      (∀ j oj, ops[j]? = some oj → j ≠ i → listed.getD j true = false → (∀ e ∈ oj.after, Region.binds md e = true → e.on ≠ i) → oi.apart ops oj = true) →
      i ∈ Region.ready md ops listed → YieldsIf P ops S oi v a → S w → (listed.getD d false = false → T w) →
      wpAnyB P md ops Q S T d fuel (listed.setIfInBounds i true) (a.put oi.dst v) w → wpAnyB P md ops Q S T d (fuel + 1) listed a w := by
  intro fuel
  induction fuel with
  | zero =>
    intro listed a w _ hr hy hS hT H
    refine ⟨fun h => (by rw [h] at hr; cases hr), fun j hj => ?_⟩
    by_cases hji : j = i
    · subst hji; exact hy.wpOp hi hS ⟨⟨hS, fun h => hT (by rwa [getD_set_ne false hid] at h)⟩, H⟩
    · have := ready_mono hj hji
      rw [H.1] at this
      cases this
  | succ fuel ih =>
    intro listed a w hfree hr hy hS hT H
    refine ⟨fun h => (by rw [h] at hr; cases hr), fun j hj => ?_⟩
    by_cases hji : j = i
    · subst hji; exact hy.wpOp hi hS ⟨⟨hS, fun h => hT (by rwa [getD_set_ne false hid] at h)⟩, H⟩
    · have h1 := H.2 j (ready_mono hj hji)
      obtain ⟨hjun, oj, hoj, hall⟩ := mem_ready.1 hj
      have hnot : ∀ e ∈ oj.after, Region.binds md e = true → e.on ≠ i := fun e he hb heq => by
        have h1 := hall e he hb
        have h0 := (mem_ready.1 hr).1
        rw [heq] at h1
        rcases Nat.lt_or_ge i listed.size with h' | h'
        · simp [h'] at h0 h1; rw [h0] at h1; cases h1
        · simp [Array.getElem?_eq_none h'] at h1
      have h2 := wpOp_putIf hoj (hfree j oj hoj hji hjun hnot) (fun cs b => hsel i oi cs b hi) (fun cs b => hsel j oj cs b hoj) hQ hy h1
      have hfree' : ∀ k ok, ops[k]? = some ok → k ≠ i → (listed.setIfInBounds j true).getD k true = false →
          (∀ e ∈ ok.after, Region.binds md e = true → e.on ≠ i) → oi.apart ops ok = true := fun k ok hk hki hun hno => by
        refine hfree k ok hk hki ?_ hno
        by_cases hjk : j = k
        · subst hjk; exact hjun
        · rw [getD_set_ne true hjk] at hun; exact hun
      have hbit : ((listed.setIfInBounds i true).setIfInBounds j true).getD d false = (listed.setIfInBounds j true).getD d false := by
        rw [Array.setIfInBounds_comm _ _ (Ne.symm hji), getD_set_ne false hid]
      refine wpOp_mono (fun a' w' h3 => ⟨⟨h3.2.1.1, fun h => h3.2.1.2 (hbit.trans h)⟩, ih (listed.setIfInBounds j true) a' w' hfree' (ready_mono hr (Ne.symm hji)) h3.1 h3.2.1.1 (fun h => h3.2.1.2 (hbit.trans h)) ?_⟩) h2
      rw [Array.setIfInBounds_comm _ _ hji]
      exact h3.2.2
/-- an operation that yields under S and T, for which operation d waits -/
theorem wpAnyB_firstT {i : Nat} {oi od : Oper} {v : Value} (hi : ops[i]? = some oi) (hid : i ≠ d) (hd : ops[d]? = some od) (hdi : ∃ e ∈ od.after, Region.binds md e = true ∧ e.on = i) (hsel : ∀ (j : Nat) (o : Oper) cs b, ops[j]? = some o → o.op ≠ .select cs b)
    (hQ : ∀ c a w, Q (.panic c) (a.put oi.dst v) w → Q (.panic c) a w) :
    ∀ (fuel : Nat) (listed : Array Bool) (a : Act) (w : World),
      (∀ j oj, ops[j]? = some oj → j ≠ i → listed.getD j true = false → (∀ e ∈ oj.after, Region.binds md e = true → e.on ≠ i) → oi.apart ops oj = true) →
      i ∈ Region.ready md ops listed → YieldsIf P ops (fun w => S w ∧ T w) oi v a → listed.getD d false = false → S w → T w →
      wpAnyB P md ops Q S T d fuel (listed.setIfInBounds i true) (a.put oi.dst v) w → wpAnyB P md ops Q S T d (fuel + 1) listed a w := by
  intro fuel
  induction fuel with
  | zero =>
    intro listed a w _ hr hy hdf hS hT H
    refine ⟨fun h => (by rw [h] at hr; cases hr), fun j hj => ?_⟩
    by_cases hji : j = i
    · subst hji; exact hy.wpOp hi ⟨hS, hT⟩ ⟨⟨hS, fun _ => hT⟩, H⟩
    · have := ready_mono hj hji
      rw [H.1] at this
      cases this
  | succ fuel ih =>
    intro listed a w hfree hr hy hdf hS hT H
    refine ⟨fun h => (by rw [h] at hr; cases hr), fun j hj => ?_⟩
    by_cases hji : j = i
    · subst hji; exact hy.wpOp hi ⟨hS, hT⟩ ⟨⟨hS, fun _ => hT⟩, H⟩
    · have h1 := H.2 j (ready_mono hj hji)
      obtain ⟨hjun, oj, hoj, hall⟩ := mem_ready.1 hj
      have hnot : ∀ e ∈ oj.after, Region.binds md e = true → e.on ≠ i := fun e he hb heq => by
        have h1 := hall e he hb
        have h0 := (mem_ready.1 hr).1
        rw [heq] at h1
        rcases Nat.lt_or_ge i listed.size with h' | h'
        · simp [h'] at h0 h1; rw [h0] at h1; cases h1
        · simp [Array.getElem?_eq_none h'] at h1
      have hjd : j ≠ d := fun e => by
        subst e
        rw [hoj] at hd
        cases hd
        obtain ⟨e, he, hb, ho⟩ := hdi
        exact hnot e he hb ho
      have h2 := wpOp_putIf hoj (hfree j oj hoj hji hjun hnot) (fun cs b => hsel i oi cs b hi) (fun cs b => hsel j oj cs b hoj) hQ hy h1
      have hfree' : ∀ k ok, ops[k]? = some ok → k ≠ i → (listed.setIfInBounds j true).getD k true = false →
          (∀ e ∈ ok.after, Region.binds md e = true → e.on ≠ i) → oi.apart ops ok = true := fun k ok hk hki hun hno => by
        refine hfree k ok hk hki ?_ hno
        by_cases hjk : j = k
        · subst hjk; exact hjun
        · rw [getD_set_ne true hjk] at hun; exact hun
      have hdf2 : (listed.setIfInBounds j true).getD d false = false := by rw [getD_set_ne false hjd]; exact hdf
      have hdf3 : ((listed.setIfInBounds i true).setIfInBounds j true).getD d false = false := by rw [getD_set_ne false hjd, getD_set_ne false hid]; exact hdf
      refine wpOp_mono (fun a' w' h3 => ⟨⟨h3.2.1.1, fun _ => h3.2.1.2 hdf3⟩, ih (listed.setIfInBounds j true) a' w' hfree' (ready_mono hr (Ne.symm hji)) h3.1 hdf2 h3.2.1.1 (h3.2.1.2 hdf3) ?_⟩) h2
      rw [Array.setIfInBounds_comm _ _ hji]
      exact h3.2.2
theorem wpAnyB_take {i : Nat} {oi : Oper} {v : Value} {fuel : Nat} {listed : Array Bool} {a : Act} {w : World} (hi : ops[i]? = some oi) (hid : i ≠ d)
    (hs : Region.noSelect ops = true) (hf : Region.free md ops listed i = true) (hr : (Region.ready md ops listed).contains i = true)
    (hQ : ∀ c a w, Q (.panic c) (a.put oi.dst v) w → Q (.panic c) a w) (hy : YieldsIf P ops S oi v a) (hS : S w) (hT : listed.getD d false = false → T w)
    (h : wpAnyB P md ops Q S T d fuel (listed.setIfInBounds i true) (a.put oi.dst v) w) : wpAnyB P md ops Q S T d (fuel + 1) listed a w :=
  wpAnyB_first hi hid (Region.noSelect_spec hs) hQ fuel listed a w (Region.free_spec hi hf) (by simpa using hr) hy hS hT h
theorem wpAnyB_takeT {i : Nat} {oi od : Oper} {v : Value} {fuel : Nat} {listed : Array Bool} {a : Act} {w : World} (hi : ops[i]? = some oi) (hid : i ≠ d) (hd : ops[d]? = some od) (hdi : ∃ e ∈ od.after, Region.binds md e = true ∧ e.on = i)
    (hs : Region.noSelect ops = true) (hf : Region.free md ops listed i = true) (hr : (Region.ready md ops listed).contains i = true)
    (hQ : ∀ c a w, Q (.panic c) (a.put oi.dst v) w → Q (.panic c) a w) (hy : YieldsIf P ops (fun w => S w ∧ T w) oi v a) (hdf : listed.getD d false = false) (hS : S w) (hT : T w)
    (h : wpAnyB P md ops Q S T d fuel (listed.setIfInBounds i true) (a.put oi.dst v) w) : wpAnyB P md ops Q S T d (fuel + 1) listed a w :=
  wpAnyB_firstT hi hid hd hdi (Region.noSelect_spec hs) hQ fuel listed a w (Region.free_spec hi hf) (by simpa using hr) hy hdf hS hT h
theorem wpAnyB_takeB {i : Nat} {oi od : Oper} {v : Value} {fuel : Nat} {listed : Array Bool} {a : Act} {w : World} (hi : ops[i]? = some oi) (hid : i ≠ d) (hd : ops[d]? = some od) (hdi : (od.after.any fun e => Region.binds md e && e.on == i) = true)
    (hs : Region.noSelect ops = true) (hf : Region.free md ops listed i = true) (hr : (Region.ready md ops listed).contains i = true)
    (hQ : ∀ c a w, Q (.panic c) (a.put oi.dst v) w → Q (.panic c) a w) (hy : YieldsIf P ops (fun w => S w ∧ T w) oi v a) (hdf : listed.getD d false = false) (hS : S w) (hT : T w)
    (h : wpAnyB P md ops Q S T d fuel (listed.setIfInBounds i true) (a.put oi.dst v) w) : wpAnyB P md ops Q S T d (fuel + 1) listed a w :=
  wpAnyB_takeT hi hid hd (by
    obtain ⟨k, hk, hb⟩ := Array.any_eq_true.1 hdi
    rw [Bool.and_eq_true, beq_iff_eq] at hb
    exact ⟨_, Array.getElem_mem hk, hb.1, hb.2⟩) hs hf hr hQ hy hdf hS hT h
theorem wpAnyB_all {rs : List Nat} {fuel : Nat} {listed : Array Bool} {a : Act} {w : World} (hr : Region.ready md ops listed = rs) (hne : rs ≠ [])
    (h : ∀ i ∈ rs, wpOp P ops Q i (fun a' w' => (S w' ∧ ((listed.setIfInBounds i true).getD d false = false → T w')) ∧ wpAnyB P md ops Q S T d fuel (listed.setIfInBounds i true) a' w') a w) : wpAnyB P md ops Q S T d (fuel + 1) listed a w :=
  ⟨fun h0 => absurd (hr ▸ h0) hne, hr ▸ h⟩
theorem wpAnyB_done {listed : Array Bool} {a : Act} {w : World} (hr : Region.ready md ops listed = []) (h : Q .normal a w) : ∀ fuel, wpAnyB P md ops Q S T d fuel listed a w
  | 0 => ⟨hr, h⟩
  | _ + 1 => ⟨fun _ => h, by rw [hr]; simp⟩
theorem wp_region_B {id : Nat} {a : Act} {w : World} (hm : P.follows .mixedOrders = true)
    (h : wpAnyB P .any ops Q S T d ops.size (Array.replicate ops.size false) a w.drew) : (Code.region id ops true).wp P Q a w :=
  wp_region_any hm (wpAny_of_B _ _ _ _ h)
/-- each of the operations rs comes up next; what must then be shown: S, T as long as d has not come up, and the rest -/
def AllReadyB (P : Program) (md : Region.Mode) (ops : Array Oper) (Q : Exit → Act → World → Prop) (S T : World → Prop) (d fuel : Nat) (listed : Array Bool) (a : Act) (w : World) (rs : List Nat) : Prop :=
  ∀ i ∈ rs, wpOp P ops Q i (fun a' w' => (S w' ∧ ((listed.setIfInBounds i true).getD d false = false → T w')) ∧ wpAnyB P md ops Q S T d fuel (listed.setIfInBounds i true) a' w') a w
theorem AllReadyB.nil {fuel : Nat} {listed : Array Bool} {a : Act} {w : World} : AllReadyB P md ops Q S T d fuel listed a w [] := fun _ h => by cases h
theorem AllReadyB.cons {fuel : Nat} {listed : Array Bool} {a : Act} {w : World} {i : Nat} {o : Oper} {rs : List Nat} (ho : ops[i]? = some o)
    (h : ∀ K' : Act → World → Prop, Shut (∀ a w, S w → ((listed.setIfInBounds i true).getD d false = false → T w) → wpAnyB P md ops Q S T d fuel (listed.setIfInBounds i true) a w → K' a w) → if Region.wanted o (yielded ops a.tmps) = true then Oper.wp P o a w K' Q else K' (a.put o.dst undef) w)
    (hs : AllReadyB P md ops Q S T d fuel listed a w rs) : AllReadyB P md ops Q S T d fuel listed a w (i :: rs) := fun j hj => by
  rcases List.mem_cons.1 hj with rfl | hj
  · exact wpOp_step ho (fun K' hK => h K' (fun a w h1 h2 h3 => hK a w ⟨⟨h1, h2⟩, h3⟩))
  · exact hs j hj
theorem wpAnyB_ready {rs : List Nat} {fuel : Nat} {listed : Array Bool} {a : Act} {w : World} (hr : Region.ready md ops listed = rs) (hne : rs ≠ [])
    (h : AllReadyB P md ops Q S T d fuel listed a w rs) : wpAnyB P md ops Q S T d (fuel + 1) listed a w := wpAnyB_all hr hne h
theorem wpAnyB_end {fuel : Nat} {listed : Array Bool} {a : Act} {w : World} (hr : (Region.ready md ops listed).isEmpty = true) (h : Q .normal a w) : wpAnyB P md ops Q S T d fuel listed a w :=
  wpAnyB_done (List.isEmpty_iff.1 hr) h fuel
end
end Go.Proofs.Ytilndhmegaccmaa

namespace Go.Proofs.Ytilndhmegaccmaa
open Go.RowKit

theorem results_cell_row {P : Program} {fn : Func} {p : Tmp} {ty : TypeId} (h : fn.results = #[.cell p ty]) (tmps : Array Value) (w : World) (g : Nat) (t : TypeId) (cs : Array Value) (fr : Nat × Nat) (d : TypeDesc)
    (hp : tmps.getD p undef = .pointer (some ⟨g, 0, none⟩)) (hg : w.heap[g]? = some (.cells cs t fr))
    (hu : P.underlying ty = some d) (hd : (match d with | .struct _ | .array _ _ => true | _ => false) = true) (hi : (P.info? ty).map (·.size) = some cs.size) :
    (results fn tmps).run P w = .ok (.agg cs) w := by
  have hp' : tmps[p]?.getD undef = .pointer (some ⟨g, 0, none⟩) := by simpa using hp
  simp [results, h, hp', asAddr, run_loadVar_row w g t ty cs fr d hg hu hd hi]
theorem results_cell_tmp {P : Program} {fn : Func} {p v : Tmp} {ty : TypeId} (h : fn.results = #[.cell p ty, .tmp v]) (tmps : Array Value) (w : World) (g : Nat) (t : TypeId) (cs : Array Value) (fr : Nat × Nat) (d : TypeDesc)
    (hp : tmps.getD p undef = .pointer (some ⟨g, 0, none⟩)) (hg : w.heap[g]? = some (.cells cs t fr))
    (hu : P.underlying ty = some d) (hd : (match d with | .struct _ | .array _ _ => true | _ => false) = true) (hi : (P.info? ty).map (·.size) = some cs.size) :
    (results fn tmps).run P w = .ok (.tuple #[.agg cs, tmps.getD v undef]) w := by
  have hp' : tmps[p]?.getD undef = .pointer (some ⟨g, 0, none⟩) := by simpa using hp
  simp [results, h, hp', asAddr, run_loadVar_row w g t ty cs fr d hg hu hd hi]
theorem blk_second (w : World) (o : Obj) (T : TypeId) (C : Array Value) : Blk ((w.alloc o).alloc (.cells C T)) (w.heap.size + 1) T C := by
  have h := Blk.new (w.alloc o) T C
  rw [World.size_alloc] at h
  exact h
section
variable {w w0 : World} {H B : Nat} {T : TypeId} {F : List Nat}
theorem Blk.six {b0 b1 b2 b3 b4 b5 : Value} (h : Blk w H T #[b0, b1, b2, b3, b4, b5]) (a0 a1 a2 a3 a4 a5 : Value) : Blk ((((((w.setCell ⟨H, 0, none⟩ a0).setCell ⟨H, 1, none⟩ a1).setCell ⟨H, 2, none⟩ a2).setCell ⟨H, 3, none⟩ a3).setCell ⟨H, 4, none⟩ a4).setCell ⟨H, 5, none⟩ a5) H T #[a0, a1, a2, a3, a4, a5] := (((((h.set_ 0 a0).set_ 1 a1).set_ 2 a2).set_ 3 a3).set_ 4 a4).set_ 5 a5
theorem kept_six (hF : ∀ b ∈ F, b ≠ H) (a0 a1 a2 a3 a4 a5 : Value) : Kept F w ((((((w.setCell ⟨H, 0, none⟩ a0).setCell ⟨H, 1, none⟩ a1).setCell ⟨H, 2, none⟩ a2).setCell ⟨H, 3, none⟩ a3).setCell ⟨H, 4, none⟩ a4).setCell ⟨H, 5, none⟩ a5) := fun b hb => by
  have := hF b hb
  rw [Below.heap_setCell _ _ _ _ this, Below.heap_setCell _ _ _ _ this, Below.heap_setCell _ _ _ _ this, Below.heap_setCell _ _ _ _ this, Below.heap_setCell _ _ _ _ this, Below.heap_setCell _ _ _ _ this]
theorem size_six (a0 a1 a2 a3 a4 a5 : Value) : ((((((w.setCell ⟨H, 0, none⟩ a0).setCell ⟨H, 1, none⟩ a1).setCell ⟨H, 2, none⟩ a2).setCell ⟨H, 3, none⟩ a3).setCell ⟨H, 4, none⟩ a4).setCell ⟨H, 5, none⟩ a5).heap.size = w.heap.size := by simp [World.setCell]
end

theorem info_PE : (Try.prog.info? 25).map (fun i => (i.zero, i.size, i.bytes)) = some (some (.agg #[.int .i64 0, .int .i64 0, .int .i64 0, .int .i64 0, .int .i64 0, .slice none 0 0]), 6, 64) := by kernel_rfl
theorem PR_mono' (w w' : World) (x : P) (cs : List Value) (G : List Nat) (hk : Kept G w w') (h : PR w x cs G) : PR w' x cs G := PR.mono x cs G hk h
theorem PR_len' (w : World) (x : P) (cs : List Value) (G : List Nat) (h : PR w x cs G) : cs.length = 6 := PR_len x cs G h
/-- a call gives a pattern of its own -/
def MadePt (p : P) (w : World) (e : Ending) (w' : World) : Prop := ∃ cs F, e = .returned (.agg cs.toArray) ∧ Below w.heap.size w w' ∧ PR w' p cs F ∧ Free w' F ∧ Fresh w w' F
def PatOfP (fn : FuncId) (v : V) : Prop := ∀ (w : World) (cs : List Value) (G : List Nat), VR w v cs G → Under w.heap.size G → v.size ≤ 1048576 →
  Calls Try.prog fn #[.agg cs.toArray] w (MadePt (patOf v) w)
end Go.Proofs.Ytilndhmegaccmaa

namespace Go.Proofs.Ytilndhmegaccmaa
open Go.RowKit

/-- a table whose entries are small -/
structure Small (n : Nat) (tab : List Int) : Prop where
  len : tab.length = n * 4
  pos : ∀ s, 0 ≤ tab.getD s 0
  max : ∀ s, tab.getD s 0 ≤ 100000
theorem Small.dep {n : Nat} {tab : List Int} (h : Small n tab) (t : Ty) : 0 ≤ depthIn tab t ∧ depthIn tab t ≤ 100000 := by
  unfold depthIn
  split
  · omega
  · exact ⟨h.pos _, h.max _⟩
theorem depthIn_int {tab : List Int} {t : Ty} (h : t.d = -1) : depthIn tab t = 1 := if_pos h
theorem depthIn_data {tab : List Int} {d i : Nat} (h : d * 4 + i < tab.length) : depthIn tab ⟨(d : Int), (i : Int)⟩ = tab[d * 4 + i] := by
  unfold depthIn
  rw [if_neg (by show ¬ ((d : Int) = -1); omega), slotOf_mk]
  simp [List.getD, List.getElem?_eq_getElem h]
/-- the walk through the arguments, i of them done -/
theorem mostGo_step {tab : List Int} {ls : List Ty} {m : Int} {i : Nat} (h : i < ls.length) : mostGo tab m (ls.drop i) = if depthIn tab ls[i] = 0 then 0 else mostGo tab (max m (depthIn tab ls[i])) (ls.drop (i + 1)) := by
  rw [List.drop_eq_getElem_cons h, mostGo]

set_option maxRecDepth 100000 in
set_option maxHeartbeats 1600000 in
theorem spec_l1Slot (d i : Nat) (hd : d < 4) (hi : i < 4) (w : World) : Calls Try.prog 153 #[.agg #[.int .i64 (d : Int), .int .i64 (i : Int)]] w fun e w' => e = .returned (.int .i64 ((d * 4 + i : Nat) : Int)) ∧ Below w.heap.size w w' := by
  have g1 : (0 : Int) ≤ (d : Int) := by omega
  have g2 : (d : Int) ≤ 3 := by omega
  have g3 : (0 : Int) ≤ (i : Int) := by omega
  have g4 : (i : Int) ≤ 3 := by omega
  go_enter Try.func153, Try.ntmps153
  go_wp2
  go_ret
  exact ⟨ret_int (by omega), (Below.refl _ _).alloc (Nat.le_refl _) _⟩

set_option maxRecDepth 100000 in
set_option maxHeartbeats 1600000 in
theorem spec_l1Depth (n : Nat) (hn : n ≤ 4) (tab : List Int) (htab : Small n tab) (t : Ty) (ht : TyIn n t) (w : World) (v : Value) (F : List Nat) (hx : Arr w (NatR w) tab v F) (hf : Under w.heap.size F) :
    Calls Try.prog 125 #[v, .agg #[.int .i64 t.d, .int .i64 t.i]] w fun e w' => e = .returned (.int .i64 (depthIn tab t)) ∧ Below w.heap.size w w' := by
  obtain ⟨A, cap, rfl, hc1, hc2⟩ := hx.form
  have HX := Lib.hid hx
  have HF := Lib.hid hf
  clear hx hf
  rcases ht with ht | ⟨d, i, rfl, hd, hi⟩
  · have hf := Lib.hid (depthIn_int (tab := tab) ht)
    have t0 : (t.d == -1) = true := by simp [ht]
    clear ht
    go_enter Try.func125, Try.ntmps125
    go_wp2
    go_ret
    exact ⟨ret_int hf.out.symm, (Below.refl _ _).alloc (Nat.le_refl _) _⟩
  · have hsl : d * 4 + i < tab.length := by rw [htab.len]; omega
    have hf := Lib.hid (depthIn_data hsl)
    have t0 : ((d : Int) == -1) = false := by rw [beq_eq_false_iff_ne]; omega
    go_enter Try.func125, Try.ntmps125
    go_wp2_with fail
    refine (spec_l1Slot d i (by omega) hi _).mono ?_
    rintro e w' ⟨rfl, hB'⟩
    have hB0 : Below w.heap.size w (w.alloc (.cells #[.int .i64 (d : Int), .int .i64 (i : Int)] 32)) := (Below.refl _ _).alloc (Nat.le_refl _) _
    have hB := hB0.trans (hB'.mono hB0.size)
    obtain ⟨b, off, rfl⟩ := HX.out.ptr (by omega)
    obtain ⟨hb, c0⟩ := ArrNat.at HX.out HF.out hB (d * 4 + i) hsl
    have g5 : (0 : Int) ≤ ((d * 4 + i : Nat) : Int) := by omega
    have g6 : ((d * 4 + i : Nat) : Int) < (tab.length : Int) := by omega
    generalize hq : d * 4 + i = q at *
    clear hq hB'
    go_wp2
    go_ret
    exact ⟨ret_int hf.out.symm, hB⟩

set_option maxRecDepth 100000 in
set_option maxHeartbeats 1600000 in
theorem spec_l1Most (xs : List Dt) (hw : WorldOK xs) (tab : List Int) (htab : Small xs.length tab) (d i k : Nat) (hd : d < xs.length) (hi : i < 4) (hk : k < xs[d].ctors.length) (w : World) (v u : Value) (F G : List Nat) (hx : Arr w (DtR w) xs v F) (hf : Under w.heap.size F) (hy : Arr w (NatR w) tab u G) (hg : Under w.heap.size G) :
    Calls Try.prog 126 #[v, u, .agg #[.int .i64 (d : Int), .int .i64 (i : Int)], .int .i64 (k : Int)] w fun e w' => e = .returned (.int .i64 (mostIn xs tab ⟨(d : Int), (i : Int)⟩ (k : Int))) ∧ Below w.heap.size w w' := by
  have hmi : mostIn xs tab ⟨(d : Int), (i : Int)⟩ (k : Int) = mostGo tab 0 (argsL xs[d].ctors[k] (i : Int)) := by unfold mostIn; rw [argsOf_get hd hk]
  rw [hmi]
  clear hmi
  have hin : ∀ a ∈ argsL xs[d].ctors[k] (i : Int), TyIn xs.length a := fun a ha => argTy_in (hw.ctor hd hk) (by omega) (by omega) ha
  have hlen : (argsL xs[d].ctors[k] (i : Int)).length ≤ 3 := by rw [argsL_len]; exact (hw.ctor hd hk).args
  have HL := Lib.hid (hw.ctor hd hk).args
  have hn4 := hw.len
  obtain ⟨A, cap, rfl, hc1, hc2⟩ := hx.form
  obtain ⟨A', cap', rfl, hc3, hc4⟩ := hy.form
  have HIN := Lib.hid hin
  have HX := Lib.hid hx
  have HF := Lib.hid hf
  have HY := Lib.hid hy
  have HG := Lib.hid hg
  clear hx hf hy hg
  have HT := Lib.hid htab
  clear hin htab hw
  go_enter Try.func126, Try.ntmps126
  go_wp2_with fail
  have hB0 : Below w.heap.size w (w.alloc (.cells #[.int .i64 (d : Int), .int .i64 (i : Int)] 32)) := (Below.refl _ _).alloc (Nat.le_refl _) _
  refine (spec_l1Args xs d k (i : Int) hd hk _ _ F (ArrDt.below HX.out hB0 HF.out) (HF.out.mono hB0.size) HL.out).mono ?_
  rintro e w3 ⟨v3, F3, rfl, hb3, ha3, -, hfs3⟩
  have hB3 := hB0.trans (hb3.mono hB0.size)
  generalize hass : argsL xs[d].ctors[k] (i : Int) = ls at *
  have HASS := Lib.hid hass
  clear hass
  obtain ⟨A3, cap3, rfl, hd1, hd2⟩ := ha3.form
  have HA := Lib.hid ha3
  have HUA := Lib.hid hfs3.under
  clear ha3 hfs3 hb3 hB0
  go_wp2
  go_loopw [10, 11] (fun mv jv wr => ∃ j : Nat, ∃ m : Int, j ≤ ls.length ∧ jv = .int .i64 j ∧ mv = .int .i64 m ∧ 0 ≤ m ∧ m ≤ 100000 ∧ Hid (mostGo tab 0 ls = mostGo tab m (ls.drop j)) ∧ Below w.heap.size w wr ∧ Hid (Below w3.heap.size w3 wr)) (fun _ jv _ => ls.length - (intOf jv).toNat)
  case atStart => exact ⟨0, 0, Nat.zero_le _, rfl, rfl, by omega, by omega, (show mostGo tab 0 ls = mostGo tab 0 ls from rfl), hB3, Below.refl _ _⟩
  case round =>
    obtain ⟨j, m, hj, rfl, rfl, hm0, hm1, HM, hB, HB3⟩ := hrel
    by_cases hjl : j < ls.length
    · obtain ⟨b3, off3, rfl⟩ := HA.out.ptr (by omega)
      obtain ⟨hb4, a0, a1⟩ := ArrTy.at HA.out HUA.out HB3.out j hjl
      have g5 : (0 : Int) ≤ (j : Int) := by omega
      have g6 : (j : Int) < (ls.length : Int) := by omega
      have hstep := HM.out.trans (mostGo_step hjl)
      have HST := Lib.hid hstep
      clear hstep
      go_wp2_with fail
      refine (spec_l1Depth xs.length hn4 tab HT.out ls[j] (HIN.out _ (List.getElem_mem hjl)) wr _ G (ArrNat.below HY.out hB HG.out) (HG.out.mono hB.size)).mono ?_
      rintro e w5 ⟨rfl, hb5⟩
      have hB5 := hB.trans (hb5.mono hB.size)
      have HB5 := Lib.hid (HB3.out.trans (hb5.mono HB3.out.size))
      have hdp := HT.out.dep ls[j]
      generalize hdd : depthIn tab ls[j] = q at *
      by_cases hq : q = 0
      · have t0 : (q == 0) = true := by simp [hq]
        have hf : Hid (mostGo tab 0 ls = 0) := by have h := HST.out; rw [if_pos hq] at h; exact h
        clear hdd hq
        go_wp2
        go_ret
        exact ⟨ret_int (by rw [HASS.out]; exact hf.out.symm), hB5⟩
      · have t0 : (q == 0) = false := by simpa using hq
        have h2 : mostGo tab 0 ls = mostGo tab (max m q) (ls.drop (j + 1)) := by have h := HST.out; rw [if_neg hq] at h; exact h
        clear hdd hq
        by_cases hgt : m < q
        · have t1 : decide (q > m) = true := by simpa using hgt
          rw [show max m q = q by omega] at h2
          have HM2 := Lib.hid h2
          clear h2 hgt
          go_wp2
          go_roundw
          case rel => exact ⟨j + 1, q, by omega, by go_num, rfl, by omega, by omega, HM2, hB5, HB5⟩
          case measure => (simp [intOf] <;> omega)
        · have t1 : decide (q > m) = false := by simp; omega
          rw [show max m q = m by omega] at h2
          have HM2 := Lib.hid h2
          clear h2 hgt
          go_wp2
          go_roundw
          case rel => exact ⟨j + 1, m, by omega, by go_num, rfl, by omega, by omega, HM2, hB5, HB5⟩
          case measure => (simp [intOf] <;> omega)
    · have hf : Hid (mostGo tab 0 ls = m + 1) := by
        have h := HM.out
        rw [List.drop_of_length_le (by omega)] at h
        exact h
      go_wp2
      go_ret
      exact ⟨ret_int (by rw [HASS.out]; exact hf.out.symm), hB⟩
end Go.Proofs.Ytilndhmegaccmaa

namespace Go.Proofs.Ytilndhmegaccmaa
open Go.RowKit

def cellsOf (l : List Int) : Array Value := (l.map (Value.int .i64)).toArray
/-- the sixteen cells of the program's table -/
def pad (tab : List Int) : List Int := tab ++ List.replicate (16 - tab.length) 0
theorem cellsOf_get {l : List Int} {s : Nat} (h : s < l.length) : (cellsOf l)[s]? = some (.int .i64 l[s]) := by
  unfold cellsOf
  simp [List.getElem?_map, List.getElem?_eq_getElem h]
theorem cellsOf_set (l : List Int) (s : Nat) (n : Int) : (cellsOf l).setIfInBounds s (.int .i64 n) = cellsOf (l.set s n) := by
  unfold cellsOf
  rw [List.setIfInBounds_toArray, List.map_set]
theorem pad_get {tab : List Int} {s : Nat} (h : s < tab.length) (h2 : s < (pad tab).length) : (pad tab)[s] = tab[s] := by
  have h3 : (pad tab)[s]? = some tab[s] := by unfold pad; rw [List.getElem?_append_left h, List.getElem?_eq_getElem h]
  rw [List.getElem?_eq_getElem h2] at h3
  exact Option.some.inj h3
theorem pad_set {tab : List Int} {s : Nat} (h : s < tab.length) (n : Int) : (pad tab).set s n = pad (tab.set s n) := by
  unfold pad; rw [List.set_append_left _ _ h, List.length_set]
/-- block g holds the program's table -/
def Tab (w : World) (g : Nat) (tab : List Int) : Prop := Blk w g 158 (cellsOf (pad tab))
theorem Tab.cell {w : World} {g : Nat} {tab : List Int} (h : Tab w g tab) {s : Nat} (hs : s < tab.length) : w.cell? ⟨g, s, none⟩ = some (.int .i64 tab[s]) := by
  have hp : s < (pad tab).length := by unfold pad; rw [List.length_append]; omega
  rw [(show Blk w g 158 (cellsOf (pad tab)) from h).cell s, cellsOf_get hp, pad_get hs hp]

end Go.Proofs.Ytilndhmegaccmaa

namespace Go.Proofs.Ytilndhmegaccmaa
open Go.RowKit

/-- the table in sweep n, at slot s, when i constructors of it have been looked at -/
def St (xs : List Dt) (n s i : Nat) : List Int := slotGo xs s (sweepTo xs (sweeps xs n) s) ((ctorsL xs (tyAt s)).take i)
theorem St_step {xs : List Dt} {n s i : Nat} (h : i < (ctorsL xs (tyAt s)).length) : St xs n s (i + 1) = putIf (St xs n s i) s (mostIn xs (St xs n s i) (tyAt s) (ctorsL xs (tyAt s))[i]) := by
  unfold St; rw [take_snoc' _ i h, slotGo_snoc]
theorem St_all {xs : List Dt} {n s i : Nat} (h : (ctorsL xs (tyAt s)).length ≤ i) : St xs n s i = sweepTo xs (sweeps xs n) (s + 1) := by
  unfold St; rw [List.take_of_length_le h, sweepTo_succ]
theorem St_sound {xs : List Dt} (hw : WorldOK xs) {n s i : Nat} (hs : s < xs.length * 4) : Sound xs (St xs n s i) :=
  Sound.slot hw hs (fun k hk => List.mem_of_mem_take hk) ((sound_sweeps hw n).to hw (by omega))
def MaxB (tab : List Int) (B : Int) : Prop := ∀ s, tab.getD s 0 ≤ B
theorem mostGo_max {tab : List Int} {B : Int} (h : MaxB tab B) (hB : 1 ≤ B) : ∀ {ls : List Ty} {m : Int}, m ≤ B → mostGo tab m ls ≤ B + 1
  | [], m, hm => by simp only [mostGo]; omega
  | a :: ls, m, hm => by
    simp only [mostGo]
    split
    · omega
    · refine mostGo_max h hB ?_
      have : depthIn tab a ≤ B := by
        unfold depthIn
        split
        · omega
        · exact h _
      omega
theorem put_max {xs : List Dt} {tab : List Int} {B : Int} (h : MaxB tab B) (hB : 1 ≤ B) (s : Nat) (k : Int) : MaxB (putIf tab s (mostIn xs tab (tyAt s) k)) (B + 1) := by
  intro r
  unfold putIf
  split
  · by_cases hs : s < tab.length
    · rw [getD_set _ _ _ _ hs]
      split
      · exact mostGo_max h hB (by omega)
      · have := h r; omega
    · rw [List.set_eq_of_length_le (by omega)]; have := h r; omega
  · have := h r; omega
theorem slot_max {xs : List Dt} (s : Nat) : ∀ (ks : List Int) {tab : List Int} {B : Int}, MaxB tab B → 1 ≤ B → MaxB (slotGo xs s tab ks) (B + ks.length)
  | [], tab, B, h, _ => fun r => by have := h r; simpa [slotGo_nil] using this
  | k :: ks, tab, B, h, hB => by
    rw [slotGo_cons]
    have := slot_max (xs := xs) s ks (put_max (xs := xs) h hB s k) (by omega)
    intro r
    have := this r
    simp only [List.length_cons]
    omega
theorem ctorsL_len {xs : List Dt} (hw : WorldOK xs) {s : Nat} (hs : s < xs.length * 4) : (ctorsL xs (tyAt s)).length ≤ 4 := by
  have hd : s / 4 < xs.length := by omega
  have e : ctorsL xs (tyAt s) = fitTo xs[s / 4].ctors ((s % 4 : Nat) : Int) xs[s / 4].ctors.length := ctorsL_data hd
  rw [e]
  exact Nat.le_trans (fitTo_len _ _ _) (hw.at hd).hi
theorem to_max {xs : List Dt} (hw : WorldOK xs) {tab : List Int} {B : Int} (h : MaxB tab B) (hB : 1 ≤ B) : ∀ {s : Nat}, s ≤ xs.length * 4 → MaxB (sweepTo xs tab s) (B + 4 * s)
  | 0, _ => fun r => by have := h r; simpa [sweepTo_zero] using this
  | s + 1, hs => by
    rw [sweepTo_succ]
    have h1 := slot_max (xs := xs) s (ctorsL xs (tyAt s)) (to_max hw h hB (s := s) (by omega)) (by omega)
    have h2 := ctorsL_len hw (s := s) (by omega)
    intro r
    have := h1 r
    omega
theorem sweeps_max {xs : List Dt} (hw : WorldOK xs) : ∀ n, MaxB (sweeps xs n) (1 + 64 * n)
  | 0 => fun r => by
    simp only [sweeps, List.getD]
    rcases Nat.lt_or_ge r (xs.length * 4) with h | h <;> simp [h]
  | n + 1 => fun r => by
    have h := to_max hw (sweeps_max hw n) (by omega) (Nat.le_refl (xs.length * 4)) r
    have hl := hw.len
    show (sweepTo xs (sweeps xs n) (xs.length * 4)).getD r 0 ≤ _
    omega
theorem St_small {xs : List Dt} (hw : WorldOK xs) {n s i : Nat} (hs : s < xs.length * 4) (hn : n ≤ 100) : Small xs.length (St xs n s i) := by
  have h1 := St_sound hw (n := n) (i := i) hs
  refine ⟨h1.len, h1.pos, fun r => ?_⟩
  have h2 := slot_max (xs := xs) s ((ctorsL xs (tyAt s)).take i) (to_max hw (sweeps_max hw n) (by omega) (s := s) (by omega)) (by omega) r
  have h3 := ctorsL_len hw hs
  have h4 : ((ctorsL xs (tyAt s)).take i).length ≤ 4 := by rw [List.length_take]; omega
  have hl := hw.len
  unfold St
  omega
theorem table_small {xs : List Dt} (hw : WorldOK xs) {n : Nat} (hn : n ≤ 100) : Small xs.length (sweeps xs n) := by
  have h1 := sound_sweeps hw n
  refine ⟨h1.len, h1.pos, fun r => ?_⟩
  have := sweeps_max hw n r
  omega
theorem getD_get {tab : List Int} {s : Nat} (h : s < tab.length) : tab.getD s 0 = tab[s] := by simp [List.getD, List.getElem?_eq_getElem h]

/-- a block of numbers, read as a slice -/
theorem Blk.nats {w : World} {g : Nat} {tab : List Int} (h : Blk w g 3 (cellsOf tab)) (hm : tab.length ≤ maxLen) : Arr w (NatR w) tab (.slice (some ⟨g, 0, none⟩) tab.length tab.length) [g] ∨ tab = [] := by
  by_cases he : tab = []
  · exact .inr he
  refine .inl ⟨_, _, rfl, Nat.le_refl _, hm, .inr ⟨g, 0, tab.map (Value.int .i64), [], rfl, fun j u hj => ?_, ?_, rfl⟩⟩
  · have hjl : j < tab.length := by have := (List.getElem?_eq_some_iff.1 hj).1; simpa using this
    rw [Nat.zero_add, h.cell, cellsOf_get hjl]
    rw [List.getElem?_map, List.getElem?_eq_getElem hjl] at hj
    simpa using hj
  · have : ∀ l : List Int, Flat (NatR w) l (l.map (Value.int .i64)) [] := by
      intro l
      induction l with
      | nil => exact ⟨rfl, rfl⟩
      | cons x l ih => exact ⟨[.int .i64 x], _, [], [], rfl, rfl, ⟨rfl, rfl⟩, ih⟩
    exact this tab

set_option maxRecDepth 100000 in
set_option maxHeartbeats 1600000 in
theorem spec_l1Table (xs : List Dt) (hw : WorldOK xs) (w : World) (v : Value) (F : List Nat) (hx : Arr w (DtR w) xs v F) (hf : Under w.heap.size F) :
    Calls Try.prog 84 #[v] w (MadeNats w (tableL xs)) := by
  obtain ⟨A, cap, rfl, hc1, hc2⟩ := hx.form
  have hn4 := hw.len
  have HW := Lib.hid hw
  have HX := Lib.hid hx
  have HF := Lib.hid hf
  clear hx hf
  clear hw
  obtain ⟨i0, hi, hz0, hz1, hz2⟩ := info_parts info_int
  have hmk : ∀ W : World, (Instr.makeSlice 106 (.int .i64 ((xs.length : Int) * 4)) (.int .i64 ((xs.length : Int) * 4))).run Try.prog W = .ok (.slice (some ⟨W.heap.size, 0, none⟩) (xs.length * 4) (xs.length * 4)) (W.alloc (.cells (cellsOf (sweeps xs 0)) 3)) := fun W => by
    have h := run_make_rowN (P := Try.prog) 106 3 i0 _ Try.underlying106 hi hz0 .i64 .i64 (xs.length * 4) (xs.length * 4) (Nat.le_refl _) (by rw [hz2]; omega) (by omega) W
    rw [hz1, show ((xs.length * 4 : Nat) : Int) = (xs.length : Int) * 4 by omega] at h
    rw [h]
    congr 2
    have e : (madeCells #[Value.int .i64 0] (xs.length * 4)).toList = (cellsOf (sweeps xs 0)).toList := by
      rw [toList_madeCells_one]
      unfold cellsOf
      simp [sweeps]
    show Obj.cells (madeCells #[Value.int .i64 0] (xs.length * 4 * 1)) _ _ = _
    rw [Nat.mul_one]
    congr 1
    exact Array.toList_inj.1 e
  clear hi hz0 hz1 hz2
  go_enter Try.func84, Try.ntmps84
  go_wp2
  clear hmk
  have hB0 : Below w.heap.size w (w.alloc (.cells (cellsOf (sweeps xs 0)) 3)) := (Below.refl _ _).alloc (Nat.le_refl _) _
  have HT0 : Hid (Blk (w.alloc (.cells (cellsOf (sweeps xs 0)) 3)) w.heap.size 3 (cellsOf (sweeps xs 0))) := Blk.new _ _ _
  go_loopw [4] (fun nv wr => ∃ n : Nat, n ≤ xs.length * 4 + 1 ∧ nv = .int .i64 n ∧ Hid (Blk wr w.heap.size 3 (cellsOf (sweeps xs n))) ∧ Below w.heap.size w wr) (fun nv _ => xs.length * 4 + 1 - (intOf nv).toNat)
  case atStart => exact ⟨0, Nat.zero_le _, rfl, HT0, hB0⟩
  case round =>
    clear hB0 HT0
    obtain ⟨n, hn, rfl, HT, hB⟩ := hrel
    by_cases hnl : n ≤ xs.length * 4
    · have t9 : decide ((n : Int) ≤ (xs.length : Int) * 4) = true := by simp; omega
      go_wp2
      clear t9
      obtain ⟨wo, hwo⟩ : ∃ wo : World, wo = wr := ⟨_, rfl⟩
      go_loopw [5] (fun sv ws => ∃ s : Nat, s ≤ xs.length * 4 ∧ sv = .int .i64 s ∧ Hid (Blk ws w.heap.size 3 (cellsOf (sweepTo xs (sweeps xs n) s))) ∧ Below w.heap.size w ws) (fun sv _ => xs.length * 4 - (intOf sv).toNat)
      case atStart => exact ⟨0, Nat.zero_le _, rfl, HT, hB⟩
      case round =>
        clear hwo HT hB
        obtain ⟨s, hs, rfl, HT, hB⟩ := hrel
        by_cases hsl : s < xs.length * 4
        · obtain ⟨q, hq⟩ : ∃ q : Nat, q = s / 4 := ⟨_, rfl⟩
          obtain ⟨r, hr⟩ : ∃ r : Nat, r = s % 4 := ⟨_, rfl⟩
          have hsq : s = q * 4 + r := by omega
          have hql : q < xs.length := by omega
          have hrl : r < 4 := by omega
          have eq : (s : Int) / 4 = (q : Int) := by omega
          have er : (s : Int) % 4 = (r : Int) := by omega
          have hty : tyAt s = ⟨(q : Int), (r : Int)⟩ := by rw [hsq]; exact tyAt_mk hrl
          have HTY := Lib.hid hty
          have HSQ := Lib.hid hsq
          clear hq hr hty hsq
          have hgl := HT.out.lt
          have hbx : Below wr.heap.size wr (wr.alloc (.cells #[.int .i64 (q : Int), .int .i64 (r : Int)] 32)) := (Below.refl _ _).alloc (Nat.le_refl _) _
          have hBx := hB.trans (hbx.mono hB.size)
          have HTx : Hid (Blk (wr.alloc (.cells #[.int .i64 (q : Int), .int .i64 (r : Int)] 32)) w.heap.size 3 (cellsOf (sweepTo xs (sweeps xs n) s))) := HT.out.same (hbx.block _ hgl)
          have KXx : Hid (Blk (wr.alloc (.cells #[.int .i64 (q : Int), .int .i64 (r : Int)] 32)) wr.heap.size 32 #[.int .i64 (q : Int), .int .i64 (r : Int)]) := Blk.new _ _ _
          go_wp2_with fail
          clear eq er
          refine (spec_l1Ctors xs ⟨(q : Int), (r : Int)⟩ _ _ F (ArrDt.below HX.out hBx HF.out) (HF.out.mono hBx.size) HW.out (.inr ⟨q, rfl, hql⟩)).mono ?_
          rintro e w3 ⟨v3, F3, rfl, hb3, ha3, -, hfs3⟩
          have hB3 := hBx.trans (hb3.mono hBx.size)
          have HT3 := Lib.hid (HTx.out.same (hb3.block _ HTx.out.lt))
          have KX3 := Lib.hid (KXx.out.same (hb3.block _ KXx.out.lt))
          rw [← HTY.out] at ha3
          obtain ⟨A3, cap3, rfl, hd1, hd2⟩ := ha3.form
          have HA3 := Lib.hid ha3
          have HU3 := Lib.hid hfs3.under
          have hgx : wr.heap.size < (wr.alloc (.cells #[.int .i64 (q : Int), .int .i64 (r : Int)] 32)).heap.size := by simp
          have HN3 : Hid (w.heap.size ∉ F3) := fun h => by have := (hfs3 _ h).1; omega
          have HS0 : Hid (Blk w3 w.heap.size 3 (cellsOf (St xs n s 0))) := HT3
          have hne : w.heap.size ≠ wr.heap.size := by omega
          have hbt := wr.heap.size
          generalize hbte : wr.heap.size = bt at *
          have HNE := Lib.hid hne
          clear hbt hbte ha3 hfs3 hb3 hgx HT3 HTx KXx hbx hBx hB HT hne hgl
          go_wp2
          obtain ⟨wo, hwo⟩ : ∃ wo : World, wo = w3 := ⟨_, rfl⟩
          go_loopw [8] (fun iv ws => ∃ i : Nat, i ≤ (ctorsL xs (tyAt s)).length ∧ iv = .int .i64 i ∧ Hid (Blk ws w.heap.size 3 (cellsOf (St xs n s i))) ∧ Hid (Blk ws bt 32 #[.int .i64 (q : Int), .int .i64 (r : Int)]) ∧ Hid (Arr ws (NatR ws) (ctorsL xs (tyAt s)) (.slice A3 (ctorsL xs (tyAt s)).length cap3) F3 ∧ Under ws.heap.size F3) ∧ Below w.heap.size w ws) (fun iv _ => (ctorsL xs (tyAt s)).length - (intOf iv).toNat)
          case atStart => exact ⟨0, Nat.zero_le _, rfl, HS0, KX3, ⟨HA3.out, HU3.out⟩, hB3⟩
          case round =>
            clear hwo HS0 KX3 HA3 HU3 hB3
            obtain ⟨i, hi, rfl, HS, KX, HA, hB⟩ := hrel
            have hgl := HS.out.lt
            have hbl := KX.out.lt
            by_cases hil : i < (ctorsL xs (tyAt s)).length
            · obtain ⟨b7, off7, rfl⟩ := HA.out.1.ptr (by omega)
              obtain ⟨hb7, c7⟩ := ArrNat.at HA.out.1 HA.out.2 (Below.refl _ _) i hil
              obtain ⟨d', k, e1, hki, hd', hk'⟩ := mem_ctorsL (xs := xs) (t := tyAt s) (by rw [HTY.out]; exact .inr ⟨q, rfl, hql⟩) (List.getElem_mem hil)
              rw [HTY.out] at e1
              obtain rfl : q = d' := Int.ofNat.inj e1
              rw [hki] at c7
              have hstep := St_step (n := n) hil
              have hmo : mostIn xs (St xs n s i) (tyAt s) (ctorsL xs (tyAt s))[i] = mostIn xs (St xs n s i) ⟨(q : Int), (r : Int)⟩ (k : Int) := by rw [hki]; exact congrArg (fun t => mostIn xs (St xs n s i) t (k : Int)) HTY.out
              rw [hmo] at hstep
              have HST := Lib.hid hstep
              clear hstep hmo e1 hki
              have hsm := St_small HW.out (n := n) (i := i) hsl (by omega)
              have hsll : s < (St xs n s i).length := by rw [hsm.len]; exact hsl
              have hnat := (HS.out.nats (by rw [hsm.len]; unfold maxLen; omega)).resolve_right (fun e => by rw [e] at hsll; simp at hsll)
              rw [hsm.len] at hnat
              have HNAT := Lib.hid hnat
              have HSM := Lib.hid hsm
              have HUG : Hid (Under wr.drew.heap.size [w.heap.size]) := fun b hb => by rw [List.mem_singleton] at hb; rw [hb]; exact hgl
              clear hnat hsm
              have y0 : wr.cell? ⟨bt, 0, none⟩ = some (.int .i64 (q : Int)) := (KX.out.cell 0).trans (by simp)
              have y1 : wr.cell? ⟨bt, 1, none⟩ = some (.int .i64 (r : Int)) := (KX.out.cell 1).trans (by simp)
              have g1 : (0 : Int) ≤ (i : Int) := by omega
              have g2 : (i : Int) < ((ctorsL xs (tyAt s)).length : Int) := by omega
              go_wp2_with fail
              have hkeep : ∀ U U' : World, (U.cell? ⟨bt, 0, none⟩ = some (.int .i64 (q : Int)) ∧ U.cell? ⟨bt, 1, none⟩ = some (.int .i64 (r : Int)) ∧ U.cell? ⟨b7, off7 + i, none⟩ = some (.int .i64 (k : Int))) → Below U.heap.size U U' → wr.heap.size ≤ U.heap.size → (U'.cell? ⟨bt, 0, none⟩ = some (.int .i64 (q : Int)) ∧ U'.cell? ⟨bt, 1, none⟩ = some (.int .i64 (r : Int)) ∧ U'.cell? ⟨b7, off7 + i, none⟩ = some (.int .i64 (k : Int))) := fun U U' h hUU hU => ⟨(hUU.cell (Nat.lt_of_lt_of_le (hbl) hU)).trans h.1, (hUU.cell (Nat.lt_of_lt_of_le (hbl) hU)).trans h.2.1, (hUU.cell (Nat.lt_of_lt_of_le (hb7) hU)).trans h.2.2⟩
              have HKeep := Lib.hid hkeep
              clear hkeep
              go_region_held3 (fun w' => w'.cell? ⟨bt, 0, none⟩ = some (.int .i64 (q : Int)) ∧ w'.cell? ⟨bt, 1, none⟩ = some (.int .i64 (r : Int)) ∧ w'.cell? ⟨b7, off7 + i, none⟩ = some (.int .i64 (k : Int))) (first | assumption | (exact ⟨y0, y1, c7⟩) | (exact HKeep.out wr.drew w' ⟨y0, y1, c7⟩ hB' (Nat.le_refl _))) (first | (go_at_call 126; ((with_reducible refine (spec_l1Most xs HW.out (St xs n s i) HSM.out q r k hql hrl hk' _ _ _ F [w.heap.size] (ArrDt.below HX.out hB.drew HF.out) (HF.out.mono hB.drew.size) (ArrNat.drew HNAT.out) HUG.out).mono ?_); rintro e w' ⟨rfl, hB'⟩)))
              have hB5 := hB.drew.trans (hB'.mono hB.size)
              have HS5 := Lib.hid (HS.out.same (hB'.block _ hgl))
              have KX5 := Lib.hid (KX.out.same (hB'.block _ hbl))
              have HA5 : Hid (Arr w' (NatR w') (ctorsL xs (tyAt s)) (.slice (some ⟨b7, off7, none⟩) (ctorsL xs (tyAt s)).length cap3) F3 ∧ Under w'.heap.size F3) := ⟨ArrNat.below (w := wr) HA.out.1 (below_undrew hB') HA.out.2, HA.out.2.mono hB'.size⟩
              clear HKeep HNAT c7 y0 y1
              have z0 : w'.cell? ⟨w.heap.size, s, none⟩ = some (.int .i64 (St xs n s i)[s]) := (HS5.out.cell s).trans (cellsOf_get hsll)
              have zf := HS5.out.frozen s
              have hgl5 := HS5.out.lt
              have g3 : (0 : Int) ≤ (s : Int) := by omega
              have g4 : (s : Int) < (xs.length : Int) * 4 := by omega
              have hbet : better (St xs n s i) s (mostIn xs (St xs n s i) ⟨(q : Int), (r : Int)⟩ (k : Int)) = (decide (0 < mostIn xs (St xs n s i) ⟨(q : Int), (r : Int)⟩ (k : Int)) && (decide ((St xs n s i)[s] = 0) || decide (mostIn xs (St xs n s i) ⟨(q : Int), (r : Int)⟩ (k : Int) < (St xs n s i)[s]))) := by
                unfold better; rw [getD_get hsll]
              generalize hm : mostIn xs (St xs n s i) ⟨(q : Int), (r : Int)⟩ (k : Int) = m at *
              have HMM := Lib.hid hm
              generalize hold : (St xs n s i)[s] = old at *
              have HOLD := Lib.hid hold
              clear hm hold
              by_cases h0 : 0 < m
              · have t0 : decide (m > 0) = true := by simpa using h0
                by_cases h1 : old = 0
                · have t1 : (old == 0) = true := by simp [h1]
                  have hb1 : better (St xs n s i) s m = true := by rw [hbet, decide_eq_true h0, decide_eq_true h1]; rfl
                  clear hbet h1
                  have HS6 : Hid (Blk (w'.setCell ⟨w.heap.size, s, none⟩ (.int .i64 m)) w.heap.size 3 (cellsOf (St xs n s (i + 1)))) := by
                    have h := HS5.out.set_ s (.int .i64 m)
                    rw [cellsOf_set, ← putIf_yes hb1, ← HST.out] at h
                    exact h
                  have KX6 : Hid (Blk (w'.setCell ⟨w.heap.size, s, none⟩ (.int .i64 m)) bt 32 #[.int .i64 (q : Int), .int .i64 (r : Int)]) := KX5.out.same (Below.heap_setCell _ _ _ _ (fun e => HNE.out e.symm))
                  have HA6 : Hid (Arr (w'.setCell ⟨w.heap.size, s, none⟩ (.int .i64 m)) (NatR (w'.setCell ⟨w.heap.size, s, none⟩ (.int .i64 m))) (ctorsL xs (tyAt s)) (.slice (some ⟨b7, off7, none⟩) (ctorsL xs (tyAt s)).length cap3) F3 ∧ Under (w'.setCell ⟨w.heap.size, s, none⟩ (.int .i64 m)).heap.size F3) := ⟨ArrNat.kept HA5.out.1 (Kept.set (Kept.refl _ _) HN3.out), HA5.out.2.mono (by simp [World.setCell])⟩
                  have hB6 : Below w.heap.size w (w'.setCell ⟨w.heap.size, s, none⟩ (.int .i64 m)) := hB5.setCell (Nat.le_refl _) _
                  clear hb1
                  go_wp2
                  go_roundw
                  case rel => exact ⟨i + 1, by omega, by go_num, HS6, KX6, HA6, hB6⟩
                  case measure => (simp [intOf] <;> omega)
                · have t1 : (old == 0) = false := by simpa using h1
                  by_cases h2 : m < old
                  · have hb1 : better (St xs n s i) s m = true := by rw [hbet, decide_eq_true h0, decide_eq_true h2, Bool.or_true]; rfl
                    clear hbet h1
                    have HS6 : Hid (Blk (w'.setCell ⟨w.heap.size, s, none⟩ (.int .i64 m)) w.heap.size 3 (cellsOf (St xs n s (i + 1)))) := by
                      have h := HS5.out.set_ s (.int .i64 m)
                      rw [cellsOf_set, ← putIf_yes hb1, ← HST.out] at h
                      exact h
                    have KX6 : Hid (Blk (w'.setCell ⟨w.heap.size, s, none⟩ (.int .i64 m)) bt 32 #[.int .i64 (q : Int), .int .i64 (r : Int)]) := KX5.out.same (Below.heap_setCell _ _ _ _ (fun e => HNE.out e.symm))
                    have HA6 : Hid (Arr (w'.setCell ⟨w.heap.size, s, none⟩ (.int .i64 m)) (NatR (w'.setCell ⟨w.heap.size, s, none⟩ (.int .i64 m))) (ctorsL xs (tyAt s)) (.slice (some ⟨b7, off7, none⟩) (ctorsL xs (tyAt s)).length cap3) F3 ∧ Under (w'.setCell ⟨w.heap.size, s, none⟩ (.int .i64 m)).heap.size F3) := ⟨ArrNat.kept HA5.out.1 (Kept.set (Kept.refl _ _) HN3.out), HA5.out.2.mono (by simp [World.setCell])⟩
                    have hB6 : Below w.heap.size w (w'.setCell ⟨w.heap.size, s, none⟩ (.int .i64 m)) := hB5.setCell (Nat.le_refl _) _
                    clear hb1
                    go_wp2
                    go_roundw
                    case rel => exact ⟨i + 1, by omega, by go_num, HS6, KX6, HA6, hB6⟩
                    case measure => (simp [intOf] <;> omega)
                  · have hb1 : better (St xs n s i) s m = false := by rw [hbet, decide_eq_false h1, decide_eq_false h2]; simp
                    clear hbet h1
                    have HS6 : Hid (Blk w' w.heap.size 3 (cellsOf (St xs n s (i + 1)))) := by
                      have h := HS5.out
                      rw [← movedB_not hb1, ← HST.out] at h
                      exact h
                    clear hb1
                    go_wp2
                    go_roundw
                    case rel => exact ⟨i + 1, by omega, by go_num, HS6, KX5, HA5, hB5⟩
                    case measure => (simp [intOf] <;> omega)
              · have t0 : decide (m > 0) = false := by simp; omega
                have hb1 : better (St xs n s i) s m = false := by rw [hbet, decide_eq_false h0]; rfl
                clear hbet
                have HS6 : Hid (Blk w' w.heap.size 3 (cellsOf (St xs n s (i + 1)))) := by
                  have h := HS5.out
                  rw [← movedB_not hb1, ← HST.out] at h
                  exact h
                clear hb1
                go_wp2
                go_roundw
                case rel => exact ⟨i + 1, by omega, by go_num, HS6, KX5, HA5, hB5⟩
                case measure => (simp [intOf] <;> omega)
            · have HT2 : Hid (Blk wr w.heap.size 3 (cellsOf (sweepTo xs (sweeps xs n) (s + 1)))) := by
                have h := HS.out
                rw [St_all (by omega)] at h
                exact h
              go_wp2
              go_roundw
              case rel => exact ⟨s + 1, by omega, by go_num, HT2, hB⟩
              case measure => (simp [intOf] <;> omega)
        · have HT2 : Hid (Blk wr w.heap.size 3 (cellsOf (sweeps xs (n + 1)))) := by
            have h := HT.out
            rw [show s = xs.length * 4 by omega] at h
            exact h
          go_wp2
          go_roundw
          case rel => exact ⟨n + 1, by omega, by go_num, HT2, hB⟩
          case measure => (simp [intOf] <;> omega)
    · have hfin : MadeNats w (tableL xs) (.returned (.slice (some ⟨w.heap.size, 0, none⟩) (xs.length * 4) (xs.length * 4))) wr := by
        have h := HT.out
        rw [show n = xs.length * 4 + 1 by omega] at h
        have hl : (tableL xs).length = xs.length * 4 := sweeps_length xs _
        rcases Blk.nats (tab := tableL xs) h (by rw [hl]; unfold maxLen; omega) with h1 | h1
        · rw [hl] at h1
          exact ⟨_, [w.heap.size], rfl, hB, h1, ⟨by simp, fun b hb i => by rw [List.mem_singleton] at hb; rw [hb]; exact h.frozen i⟩, fun b hb => by rw [List.mem_singleton] at hb; rw [hb]; exact ⟨Nat.le_refl _, h.lt⟩⟩
        · rw [h1] at hl
          refine ⟨_, [], rfl, hB, ⟨some ⟨w.heap.size, 0, none⟩, xs.length * 4, ?_, ?_, ?_, .inl ⟨h1, rfl⟩⟩, Free.nil _, Fresh.nil _ _⟩
          · rw [h1, ← hl]
          · rw [h1]; simp
          · unfold maxLen; omega
      have HFin := Lib.hid hfin
      clear hfin
      go_wp2
      go_ret
      exact HFin.out
end Go.Proofs.Ytilndhmegaccmaa

namespace Go.Proofs.Ytilndhmegaccmaa
open Go.RowKit

theorem Tab.same {w w' : World} {g : Nat} {tab : List Int} (h : Tab w g tab) (e : w'.heap[g]? = w.heap[g]?) : Tab w' g tab := Blk.same h e
theorem Tab.lt {w : World} {g : Nat} {tab : List Int} (h : Tab w g tab) : g < w.heap.size := Blk.lt h
theorem Tab.set {w : World} {g : Nat} {tab : List Int} (h : Tab w g tab) {s : Nat} (hs : s < tab.length) (n : Int) : Tab (w.setCell ⟨g, s, none⟩ (.int .i64 n)) g (tab.set s n) := by
  have h1 := Blk.set_ h s (.int .i64 n)
  rw [cellsOf_set, pad_set hs] at h1
  exact h1
/-- the call gives a pointer to a table of its own -/
def GivesTab (xs : List Dt) (w : World) (e : Ending) (w' : World) : Prop := ∃ g, e = .returned (.pointer (some ⟨g, 0, none⟩)) ∧ w.heap.size ≤ g ∧ Tab w' g (tableL xs) ∧ Below w.heap.size w w'

end Go.Proofs.Ytilndhmegaccmaa

namespace Go.Proofs.Ytilndhmegaccmaa
open Go.RowKit

def posB (n : Int) : Bool := decide (0 < n)
theorem tableL_small {xs : List Dt} (hw : WorldOK xs) : Small xs.length (tableL xs) := table_small hw (by have := hw.len; omega)
end Go.Proofs.Ytilndhmegaccmaa

namespace Go.Proofs.Ytilndhmegaccmaa
open Go.RowKit

/-- a least constructor there is, and it is found -/
theorem least_find {xs : List Dt} (hw : WorldOK xs) {t : Ty} (ht : TyIn xs.length t) (hd : ¬ t.d = -1) (h : depthIn (tableL xs) t ≠ 0) : ∃ k, (ctorsL xs t).find? (isLeast xs t) = some k := by
  obtain ⟨k, hk, h1, h2⟩ := least_ex hw ht hd h
  have h3 := (least_le hw ht hk h1).2
  have hl : isLeast xs t k = true := by unfold isLeast; rw [beq_iff_eq]; omega
  cases hf : (ctorsL xs t).find? (isLeast xs t) with
  | some k' => exact ⟨k', rfl⟩
  | none =>
    rw [List.find?_eq_none] at hf
    exact absurd hl (hf k hk)

end Go.Proofs.Ytilndhmegaccmaa

namespace Go.Proofs.Ytilndhmegaccmaa
open Go.RowKit

end Go.Proofs.Ytilndhmegaccmaa

namespace Go.Proofs.Ytilndhmegaccmaa
open Go.RowKit

def ByR (_ : World) (x : Int) (cs : List Value) (F : List Nat) : Prop := cs = [.int .u8 x] ∧ F = [] ∧ 0 ≤ x ∧ x ≤ 255
theorem ByR_len (w : World) (x : Int) (cs : List Value) (F : List Nat) (h : ByR w x cs F) : cs.length = 1 := by rw [h.1]; rfl
theorem ArrBy.mono {w w' : World} {vs : List Int} {x : Value} {F : List Nat} (h : Arr w (ByR w) vs x F) (hF : Kept F w w') : Arr w' (ByR w') vs x F := h.mono hF fun v _ cs G _ h => h
theorem ArrBy.at {w : World} {b off n cap : Nat} {F : List Nat} {xs : List Int} (h : Arr w (ByR w) xs (.slice (some ⟨b, off, none⟩) n cap) F) (hF : Under w.heap.size F) (i : Nat) (hi : i < xs.length) :
    b < w.heap.size ∧ b ∈ F ∧ w.cell? ⟨b, off + i, none⟩ = some (.int .u8 xs[i]) ∧ 0 ≤ xs[i] ∧ xs[i] ≤ 255 := by
  obtain ⟨b', off', cs, G, e, hb, hcs, hv, hG⟩ := h.get (ByR_len w) hi
  cases e
  obtain ⟨rfl, -, h0, h1⟩ := hv
  have := hcs 0 _ rfl
  simp only [Nat.mul_one, Nat.add_zero] at this
  exact ⟨hF _ hb, hb, this, h0, h1⟩
theorem Arr.take {α : Type} {w : World} {R : α → List Value → List Nat → Prop} {xs : List α} {A : Option Addr} {n cap : Nat} {F : List Nat} (h : Arr w R xs (.slice A n cap) F) (m : Nat) (hm : m ≤ xs.length) (hm0 : 0 < m) : ∃ G, Arr w R (xs.take m) (.slice A m cap) G ∧ ∀ b ∈ G, b ∈ F := by
  obtain ⟨A', cap', hv, h1, h2, h3⟩ := h
  cases hv
  have hl : (xs.take m).length = m := by rw [List.length_take]; omega
  rcases h3 with ⟨rfl, -⟩ | ⟨b, off, cs, G, rfl, hc, hf, rfl⟩
  · simp at hm; omega
  · have hxs : xs = xs.take m ++ xs.drop m := (List.take_append_drop m xs).symm
    rw [hxs] at hf
    obtain ⟨c1, c2, F1, F2, rfl, rfl, g1, g2⟩ := Flat.split (xs.take m) hf
    exact ⟨b :: F1, ⟨_, cap, by rw [hl], by rw [hl]; omega, h2, .inr ⟨b, off, c1, F1, rfl, hc.left, g1, rfl⟩⟩, fun x hx => by
      rcases List.mem_cons.1 hx with h | h
      · simp [h]
      · simp [h]⟩
/-- the reader in block g: it has given p numbers -/
def Rd (w : World) (g p : Nat) : Prop := ∃ A cap bs F, Blk w g 127 #[.slice A bs.length cap, .int .i64 (p : Int)] ∧ Arr w (ByR w) bs (.slice A bs.length cap) F ∧ Under g F ∧ bs.length ≤ 2000
theorem Rd.lt {w : World} {g p : Nat} (h : Rd w g p) : g < w.heap.size := by obtain ⟨A, cap, bs, F, h1, -⟩ := h; exact h1.lt
theorem Rd.below {w w' : World} {g p : Nat} (h : Rd w g p) (hb : Below w.heap.size w w') : Rd w' g p := by
  obtain ⟨A, cap, bs, F, h1, h2, h3, h5⟩ := h
  exact ⟨A, cap, bs, F, h1.same (hb.block _ h1.lt), ArrBy.mono h2 (.of_below hb (h3.mono (Nat.le_of_lt h1.lt))), h3, h5⟩
theorem Rd.set {w : World} {g p b j : Nat} {u : Value} (h : Rd w g p) (hb : g < b) : Rd (w.setCell ⟨b, j, none⟩ u) g p := by
  obtain ⟨A, cap, bs, F, h1, h2, h3, h5⟩ := h
  exact ⟨A, cap, bs, F, h1.same (Below.heap_setCell _ _ _ _ (by show g ≠ b; omega)), ArrBy.mono h2 (fun c hc => Below.heap_setCell _ _ _ _ (by have := h3 c hc; show c ≠ b; omega)), h3, h5⟩
theorem Rd.drew {w : World} {g p : Nat} (h : Rd w g p) : Rd w.drew g p := h
theorem Rd.drewN {w : World} {g p : Nat} (h : Rd w g p) (n : Nat) : Rd (w.drewN n) g p := h
theorem Rd.chg {w w' : World} {g p : Nat} {F : List Nat} (h : Rd w g p) (hc : Chg F w w') (hF : ∀ b ∈ F, w.heap.size ≤ b) : Rd w' g p :=
  h.below ⟨hc.os, hc.tape, hc.output, hc.size, fun b hb => hc.block b hb (fun hf => Nat.lt_irrefl _ (Nat.lt_of_lt_of_le hb (hF b hf)))⟩
theorem i64_xor_nat (a b : Nat) (ha : a < 9223372036854775808) (hb : b < 9223372036854775808) : bits .xor .i64 (a : Int) (b : Int) = ((a ^^^ b : Nat) : Int) := by
  have hx : a ^^^ b < 2 ^ 63 := Nat.xor_lt_two_pow (by omega) (by omega)
  show IntKind.i64.wrap ((BitVec.ofInt 64 (a : Int) ^^^ BitVec.ofInt 64 (b : Int)).toNat : Int) = _
  rw [BitVec.toNat_xor, ofInt_u64 a (by omega), ofInt_u64 b (by omega)]
  exact IntWalk.i64_in _ (by omega)
set_option maxRecDepth 100000 in
set_option maxHeartbeats 1600000 in
theorem pick_any (n p g : Nat) (w : World) (h : Rd w g p) (hp : p ≤ 1000000) (hn : 1 ≤ n) (hn2 : n ≤ 1000000) :
    Calls Try.prog 51 #[.pointer (some ⟨g, 0, none⟩), .int .i64 (n : Int)] w fun e w' => ∃ r : Nat, e = .returned (.int .i64 (r : Int)) ∧ r < n ∧ Rd w' g (p + 1) ∧ Chg [g] w w' := by
  obtain ⟨A, cap, bs, F, hk, ha, hu, hbl⟩ := h
  have hf : Under w.heap.size F := hu.mono (Nat.le_of_lt hk.lt)
  have hg : g ∉ F := fun h => Nat.lt_irrefl _ (hu g h)
  have HU := Lib.hid hu
  clear hu
  have c0 : w.cell? ⟨g, 0, none⟩ = some (.slice A bs.length cap) := (hk.cell 0).trans (by simp)
  have c1 : w.cell? ⟨g, 1, none⟩ = some (.int .i64 (p : Int)) := (hk.cell 1).trans (by simp)
  have f1 := hk.frozen 1
  have hlt := hk.lt
  have HK := Lib.hid hk
  have HA := Lib.hid ha
  have HF := Lib.hid hf
  have HG := Lib.hid hg
  clear hk ha hf hg
  have t0 : decide ((n : Int) < 1) = false := decide_eq_false (by omega)
  have KR : Blk (w.setCell ⟨g, 1, none⟩ (.int .i64 ((p : Int) + 1))) g 127 #[.slice A bs.length cap, .int .i64 ((p : Int) + 1)] := HK.out.set_ 1 _
  have hCG : Chg [g] w (w.setCell ⟨g, 1, none⟩ (.int .i64 ((p : Int) + 1))) := (Chg.refl _ _).set (by simp)
  have hRd : Hid (Rd (w.setCell ⟨g, 1, none⟩ (.int .i64 ((p : Int) + 1))) g (p + 1)) := ⟨A, cap, bs, F, KR, ArrBy.mono HA.out (hCG.kept HF.out (fun b hb => by simp; intro e; exact HG.out (e ▸ hb))), HU.out, hbl⟩
  have HCG := Lib.hid hCG
  clear KR hCG
  by_cases hb0 : bs.length = 0
  · have t1 : ((bs.length : Int) == 0) = true := beq_iff_eq.2 (by omega)
    go_enter Try.func51, Try.ntmps51
    go_wp2
    go_ret
    exact ⟨0, rfl, by omega, hRd.out, HCG.out⟩
  · have t1 : ((bs.length : Int) == 0) = false := by rw [beq_eq_false_iff_ne]; omega
    obtain ⟨b, off, rfl⟩ := HA.out.ptr (by omega)
    by_cases hpl : p < bs.length
    · have t2 : decide ((p : Int) < (bs.length : Int)) = true := decide_eq_true (by omega)
      have g1 : (0 : Int) ≤ (p : Int) := by omega
      obtain ⟨hbw, hbF, x0, hx0, hx1⟩ := ArrBy.at HA.out HF.out p hpl
      have hbg : g ≠ b := fun e => HG.out (e ▸ hbF)
      generalize hX : bs[p] = X at *
      obtain ⟨Xn, rfl⟩ := Int.eq_ofNat_of_zero_le hx0
      have hw1 : IntKind.i64.wrap (Xn : Int) = (Xn : Int) := IntWalk.i64_in _ (by omega)
      clear hX
      go_enter Try.func51, Try.ntmps51
      go_wp2
      go_ret
      exact ⟨Xn % n, rfl, Nat.mod_lt _ (by omega), hRd.out, HCG.out⟩
    · have t2 : decide ((p : Int) < (bs.length : Int)) = false := decide_eq_false (by omega)
      obtain ⟨q1, hq1⟩ : ∃ q, q = p % bs.length := ⟨_, rfl⟩
      obtain ⟨q2, hq2⟩ : ∃ q, q = (p * 7 + 3) % bs.length := ⟨_, rfl⟩
      obtain ⟨q3, hq3⟩ : ∃ q, q = p / bs.length := ⟨_, rfl⟩
      have l1 : q1 < bs.length := by rw [hq1]; exact Nat.mod_lt _ (by omega)
      have l2 : q2 < bs.length := by rw [hq2]; exact Nat.mod_lt _ (by omega)
      have l3 : q3 ≤ 1000000 := by rw [hq3]; exact Nat.le_trans (Nat.div_le_self _ _) hp
      obtain ⟨hbw, hbF, x1, hx0, hx1⟩ := ArrBy.at HA.out HF.out q1 l1
      obtain ⟨-, -, x2, hy0, hy1⟩ := ArrBy.at HA.out HF.out q2 l2
      have hbg : g ≠ b := fun e => HG.out (e ▸ hbF)
      generalize hX : bs[q1] = X at *
      generalize hY : bs[q2] = Y at *
      obtain ⟨Xn, rfl⟩ := Int.eq_ofNat_of_zero_le hx0
      obtain ⟨Yn, rfl⟩ := Int.eq_ofNat_of_zero_le hy0
      have m1 : (p : Int).tmod (bs.length : Int) = (q1 : Int) := by rw [Int.tmod_eq_emod_of_nonneg (by omega), hq1]; rfl
      have m1' : (p : Int) % (bs.length : Int) = (q1 : Int) := by rw [hq1]; rfl
      have m2 : ((p : Int) * 7 + 3).tmod (bs.length : Int) = (q2 : Int) := by rw [Int.tmod_eq_emod_of_nonneg (by omega), hq2]; push_cast; rfl
      have m2' : ((p : Int) * 7 + 3) % (bs.length : Int) = (q2 : Int) := by rw [hq2]; push_cast; rfl
      have m3 : (p : Int).tdiv (bs.length : Int) = (q3 : Int) := by rw [hq3]; rfl
      have m3' : (p : Int) / (bs.length : Int) = (q3 : Int) := by rw [hq3]; rfl
      have n1 : (0 : Int) ≤ (q1 : Int) := by omega
      have n2 : (q1 : Int) < (bs.length : Int) := by omega
      have n3 : (0 : Int) ≤ (q2 : Int) := by omega
      have n4 : (q2 : Int) < (bs.length : Int) := by omega
      have n5 : (bs.length : Int) ≠ 0 := by omega
      have a1 : IntKind.i64.wrap ((Xn : Int) * 131) = (Xn : Int) * 131 := IntWalk.i64_in _ (by omega)
      have a2 : IntKind.i64.wrap ((p : Int) * 7) = (p : Int) * 7 := IntWalk.i64_in _ (by omega)
      have a3 : IntKind.i64.wrap ((p : Int) * 7 + 3) = (p : Int) * 7 + 3 := IntWalk.i64_in _ (by omega)
      have a4 : IntKind.i64.wrap ((Yn : Int) * 1117) = (Yn : Int) * 1117 := IntWalk.i64_in _ (by omega)
      have a5 : IntKind.i64.wrap ((Xn : Int) * 131 + (Yn : Int) * 1117) = (Xn : Int) * 131 + (Yn : Int) * 1117 := IntWalk.i64_in _ (by omega)
      have a6 : IntKind.i64.wrap ((p : Int) * 29) = (p : Int) * 29 := IntWalk.i64_in _ (by omega)
      have a7 : IntKind.i64.wrap ((Xn : Int) * 131 + (Yn : Int) * 1117 + (p : Int) * 29) = (Xn : Int) * 131 + (Yn : Int) * 1117 + (p : Int) * 29 := IntWalk.i64_in _ (by omega)
      have a8 : IntKind.i64.wrap (q3 : Int) = (q3 : Int) := IntWalk.i64_in _ (by omega)
      have a9 : IntKind.i64.wrap ((q3 : Int) * 53) = (q3 : Int) * 53 := IntWalk.i64_in _ (by omega)
      have aa : IntKind.i64.wrap ((Xn : Int) * 131 + (Yn : Int) * 1117 + (p : Int) * 29 + (q3 : Int) * 53) = (Xn : Int) * 131 + (Yn : Int) * 1117 + (p : Int) * 29 + (q3 : Int) * 53 := IntWalk.i64_in _ (by omega)
      have ab : IntKind.i64.wrap (Xn : Int) = (Xn : Int) := IntWalk.i64_in _ (by omega)
      have ac : IntKind.i64.wrap (Yn : Int) = (Yn : Int) := IntWalk.i64_in _ (by omega)
      obtain ⟨T, hT⟩ : ∃ T : Nat, (Xn : Int) * 131 + (Yn : Int) * 1117 + (p : Int) * 29 + (q3 : Int) * 53 = (T : Int) := ⟨Xn * 131 + Yn * 1117 + p * 29 + q3 * 53, by push_cast; rfl⟩
      have hTl : T ≤ 1000000000 := by omega
      have hd : (T : Int).tdiv 64 = ((T / 64 : Nat) : Int) := rfl
      have hd' : (T : Int) / 64 = ((T / 64 : Nat) : Int) := rfl
      have hxr := i64_xor_nat T (T / 64) (by omega) (by omega)
      have hxw : IntKind.i64.wrap ((T / 64 : Nat) : Int) = ((T / 64 : Nat) : Int) := IntWalk.i64_in _ (by omega)
      clear hX hY hq1 hq2 hq3 hb0
      go_enter Try.func51, Try.ntmps51
      go_wp2_with fail
      have hxr2 : bits .xor .i64 (T : Int) ((T : Int) / 64) = ((T ^^^ (T / 64) : Nat) : Int) := hxr
      have hXl : T ^^^ (T / 64) < 2 ^ 40 := Nat.xor_lt_two_pow (by omega) (by omega)
      generalize hXe : T ^^^ (T / 64) = X at hxr hxr2 hXl
      have hXm : (X : Int).tmod (n : Int) = ((X % n : Nat) : Int) := rfl
      have hXw : IntKind.i64.wrap (X : Int) = (X : Int) := IntWalk.i64_in _ (by omega)
      clear hXe hxr hd hd' hxw
      go_quiet (fail)
      clear x1 x2 m1 m1' m2 m2' m3 m3' n1 n2 n3 n4 n5 a1 a2 a3 a4 a5 a6 a7 a8 a9 aa ab ac
      go_wp2
      go_ret
      exact ⟨X % n, rfl, Nat.mod_lt _ (by omega), hRd.out.drewN _, HCG.out.drewN _⟩
set_option maxRecDepth 100000 in
set_option maxHeartbeats 1600000 in
theorem spec_l17Open (bs : List Int) (w : World) (v : Value) (F : List Nat) (hx : Arr w (ByR w) bs v F) (hf : Under w.heap.size F) :
    Calls Try.prog 49 #[v] w fun e w' => ∃ g : Nat, e = .returned (.pointer (some ⟨g, 0, none⟩)) ∧ w.heap.size ≤ g ∧ Below w.heap.size w w' ∧ Rd w' g 0 := by
  obtain ⟨A, cap, rfl, hc1, hc2⟩ := hx.form
  have hbl : ∀ (A : Option Addr) (cap : Nat) (bs : List Int) (F : List Nat), Arr w (ByR w) bs (.slice A bs.length cap) F → Under w.heap.size F → bs.length ≤ 2000 → Rd (w.alloc (.cells #[.slice A bs.length cap, .int .i64 0] 127)) w.heap.size 0 := fun A cap bs F h1 h2 h3 =>
    ⟨A, cap, bs, F, Blk.new _ _ _, ArrBy.mono h1 (.of_below ((Below.refl _ _).alloc (Nat.le_refl _) _) h2), h2, h3⟩
  have HBL := Lib.hid hbl
  have HX := Lib.hid hx
  have HF := Lib.hid hf
  clear hx hf
  clear hbl
  by_cases hl : 2000 < bs.length
  · have t0 : decide ((bs.length : Int) > 2000) = true := decide_eq_true (by omega)
    obtain ⟨b, off, rfl⟩ := HX.out.ptr (by omega)
    obtain ⟨G, hG, hGF⟩ := HX.out.take 2000 (by omega) (by omega)
    have hlt : (bs.take 2000).length = 2000 := by rw [List.length_take]; omega
    have hr := HBL.out (some ⟨b, off, none⟩) cap (bs.take 2000) G (by rw [hlt]; exact hG) (HF.out.sub hGF) (by rw [hlt]; exact Nat.le_refl _)
    rw [hlt] at hr
    have HRD := Lib.hid hr
    have g1 : (2000 : Int) ≤ (bs.length : Int) := by omega
    have g2 : 2000 ≤ cap := by omega
    clear hr hG hlt
    go_enter Try.func49, Try.ntmps49
    go_wp2
    go_ret
    exact ⟨w.heap.size, rfl, Nat.le_refl _, (Below.refl _ _).alloc (Nat.le_refl _) _, HRD.out⟩
  · have t0 : decide ((bs.length : Int) > 2000) = false := decide_eq_false (by omega)
    have HRD := Lib.hid (HBL.out _ _ _ F HX.out HF.out (by omega))
    go_enter Try.func49, Try.ntmps49
    go_wp2
    go_ret
    exact ⟨w.heap.size, rfl, Nat.le_refl _, (Below.refl _ _).alloc (Nat.le_refl _) _, HRD.out⟩
end Go.Proofs.Ytilndhmegaccmaa

namespace Go.Proofs.Ytilndhmegaccmaa
open Go.RowKit

def bs (l : List UInt8) : ByteArray := ⟨l.toArray⟩
theorem bs_toList (l : List UInt8) : (bs l).data.toList = l := rfl
theorem bs_size (l : List UInt8) : (bs l).size = l.length := rfl
/-- the pieces of a text between the bytes c; cur is the piece under way -/
def cutGo (c : UInt8) : List UInt8 → List UInt8 → List (List UInt8)
  | cur, [] => [cur]
  | cur, x :: xs => if x = c then cur :: cutGo c [] xs else cutGo c (cur ++ [x]) xs
def cutL (c : UInt8) (l : List UInt8) : List (List UInt8) := cutGo c [] l
def findGo (s : List UInt8) : Nat → List (List UInt8) → Int
  | _, [] => -2
  | i, x :: xs => if x = s then (i : Int) else findGo s (i + 1) xs
def findL (names : List (List UInt8)) (s : List UInt8) : Int := if s = [73] then -1 else findGo s 0 names
def idxOf (rest : List UInt8) : Int := if rest = [42] then -1 else match rest with
    | [x] => if 48 ≤ x.toNat ∧ x.toNat ≤ 57 then (x.toNat : Int) - 48 else 0
    | _ => 0
def parseTy (names : List (List UInt8)) : List UInt8 → Ty
  | [] => ⟨-2, 0⟩
  | c :: rest => ⟨findL names [c], idxOf rest⟩
def headL (l : List (List UInt8)) : List UInt8 := match l with | [] => [] | x :: _ => x
def parseArgs (names : List (List UInt8)) (parts : List (List UInt8)) : List Ty :=
  match parts with
  | _ :: p :: _ => if p = [] then [] else ((cutL 44 (p.take (p.length - 1))).take 4).map (parseTy names)
  | _ => []
def parseBody (names : List (List UInt8)) (idx : Int) (s : List UInt8) : Kt := ⟨bs (headL (cutL 40 s)), parseArgs names (cutL 40 s), idx⟩
def hasIdx (s : List UInt8) : Bool := decide (2 < s.length) && decide (s.getD (s.length - 2) 0 = 58)
def parseKt (names : List (List UInt8)) (s : List UInt8) : Kt :=
  if hasIdx s = true then parseBody names (((s.getD (s.length - 1) 0).toNat : Int) - 48) (s.take (s.length - 2)) else parseBody names 0 s
def parseDt (names : List (List UInt8)) (name : List UInt8) (rest : List UInt8) : Dt := ⟨bs name, ((cutL 124 rest).take 5).map (parseKt names)⟩
/-- names and definitions of the lines, none where one is not of two parts -/
def splitGo : List (List UInt8) → Option (List (List UInt8 × List UInt8))
  | [] => some []
  | l :: ls => match cutL 61 l with
    | [a, b] => match splitGo ls with
      | some r => some ((a, b) :: r)
      | none => none
    | _ => none
def parseGo (text : List UInt8) : Option (List Dt) :=
  if text = [] then some [] else
  match splitGo ((cutL 59 text).take 5) with
  | none => none
  | some r => some (r.map fun p => parseDt (r.map Prod.fst) p.1 p.2)
end Go.Proofs.Ytilndhmegaccmaa

namespace Go.Proofs.Ytilndhmegaccmaa
open Go.RowKit

def digT (i : Int) : List UInt8 := [UInt8.ofNat (48 + i.toNat)]
def idxT (i : Int) : List UInt8 := if i = 0 then [] else if i = -1 then [42] else digT i
def nameAt (xs : List Dt) (d : Int) : List UInt8 := match xs[d.toNat]? with | some x => x.name.data.toList | none => []
def tyT (xs : List Dt) (t : Ty) : List UInt8 := if t.d = -1 then [73] else nameAt xs t.d ++ idxT t.i
def argsT (xs : List Dt) : Bool → List Ty → List UInt8
  | _, [] => []
  | b, a :: l => (if b = true then 40 else 44) :: (tyT xs a ++ argsT xs false l)
def endT (c : Kt) : List UInt8 := if 0 < c.idx then 58 :: digT c.idx else []
def closeT (c : Kt) : List UInt8 := if 0 < c.args.length then [41] else []
def ktT (xs : List Dt) (c : Kt) : List UInt8 := c.name.data.toList ++ (argsT xs true c.args ++ (closeT c ++ endT c))
def ktsT (xs : List Dt) : Bool → List Kt → List UInt8
  | _, [] => []
  | b, c :: l => (if b = true then [] else [124]) ++ (ktT xs c ++ ktsT xs false l)
def dtsT (xs : List Dt) : Bool → List Dt → List UInt8
  | _, [] => []
  | b, x :: l => (if b = true then [] else [59]) ++ (x.name.data.toList ++ (61 :: (ktsT xs true x.ctors ++ dtsT xs false l)))
def textT (xs : List Dt) : List UInt8 := dtsT xs true xs
/-- what ParseWorld gives: none where the text is not one of a valid world -/
def parseW (text : List UInt8) : Option (List Dt) := match parseGo text with
  | none => none
  | some xs => if worldOk xs = true then if textT xs = text then some xs else none else none
def fineW (text : List UInt8) : Bool := match parseW text with
  | some (_ :: _) => true
  | _ => false
theorem fineW_ex {text : List UInt8} (h : fineW text = true) : ∃ xs, parseW text = some xs ∧ worldOk xs = true ∧ 0 < xs.length := by
  unfold fineW at h
  split at h
  · rename_i x l e
    refine ⟨_, e, ?_, by simp⟩
    unfold parseW at e
    split at e
    · cases e
    · split at e
      · rename_i hw
        split at e
        · cases e; exact hw
        · cases e
      · cases e
  · cases h
def sevenT : List (List UInt8) := [
  [76, 61, 78, 105, 108, 124, 67, 111, 110, 115, 40, 73, 44, 76, 41],
  [66, 61, 84, 114, 117, 124, 70, 108, 115, 59, 84, 61, 76, 101, 97, 102, 124, 78, 111, 100, 101, 40, 84, 44, 66, 44, 84, 41],
  [69, 61, 78, 117, 109, 40, 73, 41, 58, 49, 124, 66, 111, 108, 40, 66, 41, 58, 50, 124, 65, 100, 100, 40, 69, 49, 44, 69, 49, 41, 58, 49, 124, 73, 102, 40, 69, 50, 44, 69, 42, 44, 69, 42, 41, 59, 66, 61, 84, 114, 117, 124, 70, 108, 115],
  [79, 61, 78, 111, 110, 124, 83, 111, 109, 40, 73, 41, 59, 80, 61, 80, 97, 105, 114, 40, 79, 44, 79, 41],
  [86, 61, 69, 110, 100, 58, 49, 124, 83, 111, 109, 101, 40, 73, 44, 86, 49, 41, 58, 50, 124, 84, 119, 111, 40, 86, 42, 41],
  [78, 61, 78, 101, 118, 101, 114, 40, 78, 41, 59, 66, 61, 84, 114, 117, 124, 70, 108, 115, 124, 77, 97, 121, 40, 78, 41],
  [83, 61, 82, 101, 100, 124, 71, 114, 101, 101, 110, 124, 66, 108, 117, 101, 124, 77, 105, 120, 40, 83, 44, 83, 41]]
set_option maxRecDepth 100000 in
theorem sevenT_fine : sevenT.all fineW = true := by decide +kernel
end Go.Proofs.Ytilndhmegaccmaa

namespace Go.Proofs.Ytilndhmegaccmaa
open Go.RowKit

def tl (s : ByteArray) : List UInt8 := s.data.toList
theorem tl_len (s : ByteArray) : (tl s).length = s.size := by unfold tl; simp
theorem tl_extract (s : ByteArray) (a b : Nat) : tl (s.extract a b) = ((tl s).take b).drop a := by
  unfold tl
  rw [ByteArray.data_extract, Array.toList_extract, List.extract_eq_take_drop, List.drop_take]
theorem tl_at (s : ByteArray) (i : Nat) (h : i < s.size) : (tl s)[i]'(by rw [tl_len]; exact h) = s[i] := rfl
theorem bs_tl (s : ByteArray) : bs (tl s) = s := rfl
theorem tl_bs (l : List UInt8) : tl (bs l) = l := rfl
theorem tl_inj {a b : ByteArray} (h : tl a = tl b) : a = b := by rw [← bs_tl a, ← bs_tl b, h]
def cutS (c : UInt8) (s : ByteArray) : List ByteArray := (cutL c (tl s)).map bs
theorem info_strE : (Try.prog.info? 9).map (fun i => (i.zero, i.size, i.bytes)) = some (some (.string ⟨#[]⟩), 1, 16) := by kernel_rfl
/-- what is left to cut at place i, the piece under way begins at from -/
def cutRest (c : UInt8) (s : ByteArray) (frm i : Nat) : List ByteArray := if i ≤ s.size then (cutGo c (((tl s).take i).drop frm) ((tl s).drop i)).map bs else []
theorem cutRest_start (c : UInt8) (s : ByteArray) : cutRest c s 0 0 = cutS c s := by
  unfold cutRest cutS cutL
  rw [if_pos (Nat.zero_le _)]
  rfl
theorem cutRest_end (c : UInt8) (s : ByteArray) (frm : Nat) : cutRest c s frm s.size = s.extract frm s.size :: cutRest c s (s.size + 1) (s.size + 1) := by
  unfold cutRest
  have hd : (tl s).drop s.size = [] := List.drop_of_length_le (by rw [tl_len]; exact Nat.le_refl _)
  rw [if_pos (Nat.le_refl _), if_neg (by omega), hd, cutGo, List.map_cons, List.map_nil, ← tl_extract, bs_tl]
theorem cutRest_hit (c : UInt8) (s : ByteArray) (frm i : Nat) (hi : i < s.size) (h : s[i] = c) : cutRest c s frm i = s.extract frm i :: cutRest c s (i + 1) (i + 1) := by
  unfold cutRest
  rw [if_pos (by omega), if_pos (by omega), List.drop_eq_getElem_cons (i := i) (by rw [tl_len]; exact hi), cutGo, if_pos (by rw [tl_at s i hi]; exact h), List.map_cons, ← tl_extract, bs_tl]
  congr 3
  rw [List.drop_of_length_le (by simp; omega)]
theorem cutRest_miss (c : UInt8) (s : ByteArray) (frm i : Nat) (hi : i < s.size) (hf : frm ≤ i) (h : s[i] ≠ c) : cutRest c s frm i = cutRest c s frm (i + 1) := by
  unfold cutRest
  rw [if_pos (by omega), if_pos (by omega), List.drop_eq_getElem_cons (i := i) (by rw [tl_len]; exact hi), cutGo, if_neg (by rw [tl_at s i hi]; exact h)]
  congr 3
  rw [List.take_succ_eq_append_getElem (by rw [tl_len]; exact hi), List.drop_append_of_le_length (by rw [List.length_take, tl_len]; omega)]
theorem cutRest_over (c : UInt8) (s : ByteArray) (frm : Nat) {i : Nat} (h : s.size < i) : cutRest c s frm i = [] := if_neg (by omega)
theorem cutRest_len (c : UInt8) (s : ByteArray) (frm i : Nat) : (cutRest c s frm i).length ≤ s.size + 1 - i := by
  have key : ∀ (l cur : List UInt8), (cutGo c cur l).length ≤ l.length + 1 := by
    intro l
    induction l with
    | nil => intro cur; simp [cutGo]
    | cons x xs ih =>
      intro cur
      rw [cutGo]
      split
      · have := ih []; simp; omega
      · have := ih (cur ++ [x]); simp; omega
  unfold cutRest
  split
  · rw [List.length_map]
    have := key ((tl s).drop i) (((tl s).take i).drop frm)
    rw [List.length_drop, tl_len] at this
    omega
  · simp
theorem cutS_len (c : UInt8) (s : ByteArray) : (cutS c s).length ≤ s.size + 1 := by rw [← cutRest_start]; exact cutRest_len c s 0 0
theorem cutS_mem (c : UInt8) (s : ByteArray) : ∀ x ∈ cutS c s, x.size ≤ s.size := by
  have key : ∀ (l cur : List UInt8), ∀ x ∈ cutGo c cur l, x.length ≤ cur.length + l.length := by
    intro l
    induction l with
    | nil => intro cur x hx; rw [cutGo, List.mem_singleton] at hx; subst hx; simp
    | cons y ys ih =>
      intro cur x hx
      rw [cutGo] at hx
      split at hx
      · rcases List.mem_cons.1 hx with rfl | hx
        · omega
        · have := ih [] x hx; simp at this ⊢; omega
      · have := ih _ x hx; simp at this ⊢; omega
  intro x hx
  unfold cutS at hx
  obtain ⟨l, hl, rfl⟩ := List.mem_map.1 hx
  have := key _ _ l hl
  rw [tl_len] at this
  rw [bs_size]
  simpa using this
def MadeStrs (w : World) (xs : List ByteArray) (e : Ending) (w' : World) : Prop := MadeArr StrR w xs e w'
theorem Own.strs {w0 w : World} {B : Nat} {E : TypeId} {xs : List ByteArray} {v : Value} (h : Own w B E 1 StrR xs v []) (hb : Below w0.heap.size w0 w) (hB : w0.heap.size ≤ B) : MadeStrs w0 xs (.returned v) w :=
  h.gives hb hB (fun b hb => by cases hb) (Free.nil _)
theorem ArrStr.at {w0 w : World} {b off n cap : Nat} {F : List Nat} {xs : List ByteArray} (h : Arr w0 (StrR w0) xs (.slice (some ⟨b, off, none⟩) n cap) F) (hF : Under w0.heap.size F) (hB : Below w0.heap.size w0 w) (i : Nat) (hi : i < xs.length) :
    b < w.heap.size ∧ w.cell? ⟨b, off + i, none⟩ = some (.string xs[i]) := by
  obtain ⟨b', off', cs, G, e, hb, hcs, hv, hG⟩ := h.get (StrR_len w0) hi
  cases e
  have hbl := hF _ hb
  have hc := hcs.same (hB.block _ hbl)
  obtain ⟨rfl, -⟩ := hv
  have := hc 0 _ rfl
  simp only [Nat.mul_one, Nat.add_zero] at this
  exact ⟨Nat.lt_of_lt_of_le hbl hB.size, this⟩
theorem ArrStr.mono {w w' : World} {vs : List ByteArray} {x : Value} {F : List Nat} (h : Arr w (StrR w) vs x F) (hF : Kept F w w') : Arr w' (StrR w') vs x F := h.mono hF fun v _ cs G hk h => StrR_mono _ _ v cs G hk h
theorem ArrStr.below {w w' : World} {B : Nat} {vs : List ByteArray} {x : Value} {F : List Nat} (h : Arr w (StrR w) vs x F) (hb : Below B w w') (hF : Under B F) : Arr w' (StrR w') vs x F := ArrStr.mono h (.of_below hb hF)
end Go.Proofs.Ytilndhmegaccmaa

namespace Go.Proofs.Ytilndhmegaccmaa
open Go.RowKit

set_option maxRecDepth 100000 in
set_option maxHeartbeats 1600000 in
theorem spec_l17Cut (s : ByteArray) (c : UInt8) (hs : s.size ≤ 1000000) (w : World) :
    Calls Try.prog 166 #[.string s, .int .u8 (c.toNat : Int)] w (MadeStrs w (cutS c s)) := by
  obtain ⟨i0, hi, hz0, hz1, hz2⟩ := info_parts info_strE
  have HI := Lib.hid hi
  have HZ0 := Lib.hid hz0
  have HZ1 := Lib.hid hz1
  have HZ2 := Lib.hid hz2
  clear hi hz0 hz1 hz2
  have HO0 : Hid (Own (w.alloc (.cells #[] 9)) w.heap.size 9 1 StrR ([] : List ByteArray) (.slice (some ⟨w.heap.size, 0, none⟩) 0 0) []) := Own.made w w.heap.size 9 1 StrR #[] 0 (Nat.le_refl _) (by simp [maxLen]) rfl
  have hB0 : Below w.heap.size w (w.alloc (.cells #[] 9)) := (Below.refl _ _).alloc (Nat.le_refl _) _
  go_enter Try.func166, Try.ntmps166
  go_wp2
  go_loopw [5, 6, 7] (fun ov fv iv wr => ∃ frm i : Nat, ∃ outs : List ByteArray, frm ≤ i ∧ i ≤ s.size + 1 ∧ iv = .int .i64 i ∧ fv = .int .i64 frm ∧ Hid (cutS c s = outs ++ cutRest c s frm i) ∧ Hid (Own wr w.heap.size 9 1 StrR outs ov []) ∧ Below w.heap.size w wr ∧ outs.length ≤ i ∧ True) (fun _ _ iv _ => s.size + 1 - (intOf iv).toNat)
  case atStart => exact ⟨0, 0, [], Nat.le_refl _, Nat.zero_le _, rfl, rfl, (by rw [cutRest_start]; rfl), HO0, hB0, Nat.le_refl _, trivial⟩
  case round =>
    clear hB0 HO0
    obtain ⟨frm, i, outs, hfi, his, rfl, rfl, HC, HO, hB, hol, -⟩ := hrel
    have g1 : (0 : Int) ≤ (i : Int) := by omega
    have g0 : (0 : Int) ≤ (frm : Int) := by omega
    by_cases hil : i ≤ s.size
    · have hB1 := hB
      have HO1 := HO
      have hbs := hB.size
      by_cases hie : i = s.size
      · subst hie
        have q0 : ((s.size : Int) == (s.size : Int)) = true := by simp
        have HF : Hid (cutS c s = (outs ++ [s.extract frm s.size]) ++ cutRest c s (s.size + 1) (s.size + 1)) := by
          have := HC.out
          rw [cutRest_end] at this
          rw [List.append_assoc]; exact this
        go_wp2_with (at_builtin; refine Halt.mk ?_)
        refine Halt.of (wpList_push1 (P := Try.prog) rfl _ _ 135 rfl i0 _ 16 Try.underlying135 HI.out HZ0.out HZ1.out HZ2.out rfl Nat.zero_lt_one StrR_len StrR_mono (by rfl) HO1.out (s.extract frm s.size) 9 [.string (s.extract frm s.size)] [] _ (by rfl) (by simp) (by simp [Value.oneCell']) ⟨rfl, rfl⟩ (Under.nil _) (fun _ _ h => by cases h) (by unfold maxLen; omega) (by omega) hbs ?_)
        intro g cp w3 hown3 hgr3 hat3
        have hrow := HO1.out.row
        have hB3 : Below w.heap.size w w3 := (hB1.alloc hB1.size _).grown hgr3 (by have := hB1.size; simp; omega) (fun g hg => by have := hrow g (mem_rowOf.2 hg); omega)
        have HO3 := Lib.hid hown3
        clear hown3 hgr3 hat3 hrow
        go_wp2
        go_roundw
        case rel => exact ⟨s.size + 1, s.size + 1, outs ++ [s.extract frm s.size], by omega, by omega, by go_num, by go_num, HF, HO3, hB3, (by simp; omega), trivial⟩
        case measure => (simp [intOf] <;> omega)
      · have hlt : i < s.size := by omega
        have q0 : ((i : Int) == (s.size : Int)) = false := by rw [beq_eq_false_iff_ne]; omega
        have g2 : (i : Int) < (s.size : Int) := by omega
        cases q1 : ((s[i].toNat : Int) == (c.toNat : Int)) with
        | true =>
          have hc : s[i] = c := by rw [beq_iff_eq] at q1; exact UInt8.toNat_inj.1 (by omega)
          have HF : Hid (cutS c s = (outs ++ [s.extract frm i]) ++ cutRest c s (i + 1) (i + 1)) := by
            have := HC.out
            rw [cutRest_hit c s frm i hlt hc] at this
            rw [List.append_assoc]; exact this
          clear hc
          go_wp2_with (at_builtin; refine Halt.mk ?_)
          refine Halt.of (wpList_push1 (P := Try.prog) rfl _ _ 135 rfl i0 _ 16 Try.underlying135 HI.out HZ0.out HZ1.out HZ2.out rfl Nat.zero_lt_one StrR_len StrR_mono (by rfl) HO1.out (s.extract frm i) 9 [.string (s.extract frm i)] [] _ (by rfl) (by simp) (by simp [Value.oneCell']) ⟨rfl, rfl⟩ (Under.nil _) (fun _ _ h => by cases h) (by unfold maxLen; omega) (by omega) hbs ?_)
          intro g cp w3 hown3 hgr3 hat3
          have hrow := HO1.out.row
          have hB3 : Below w.heap.size w w3 := (hB1.alloc hB1.size _).grown hgr3 (by have := hB1.size; simp; omega) (fun g hg => by have := hrow g (mem_rowOf.2 hg); omega)
          have HO3 := Lib.hid hown3
          clear hown3 hgr3 hat3 hrow
          go_wp2
          go_roundw
          case rel => exact ⟨i + 1, i + 1, outs ++ [s.extract frm i], by omega, by omega, by go_num, by go_num, HF, HO3, hB3, (by simp; omega), trivial⟩
          case measure => (simp [intOf] <;> omega)
        | false =>
          have hc : s[i] ≠ c := fun e => by rw [e] at q1; simp at q1
          have HF : Hid (cutS c s = outs ++ cutRest c s frm (i + 1)) := by
            have := HC.out
            rw [cutRest_miss c s frm i hlt hfi hc] at this
            exact this
          clear hc
          go_wp2
          go_roundw
          case rel => exact ⟨frm, i + 1, outs, by omega, by omega, by go_num, rfl, HF, HO, hB, by omega, trivial⟩
          case measure => (simp [intOf] <;> omega)
    · have hfin : MadeStrs w (cutS c s) (.returned u5) wr := by
        have h := HC.out
        rw [cutRest_over c s frm (by omega), List.append_nil] at h
        rw [h]
        exact HO.out.strs hB (Nat.le_refl _)
      have HFin := Lib.hid hfin
      clear hfin
      go_wp2
      go_ret
      exact HFin.out
end Go.Proofs.Ytilndhmegaccmaa

namespace Go.Proofs.Ytilndhmegaccmaa
open Go.RowKit

set_option maxRecDepth 100000 in
set_option maxHeartbeats 1600000 in
theorem num_any (ls : List Int) (hl1 : 1 ≤ ls.length) (hl2 : ls.length ≤ 1000) (p g : Nat) (w : World) (h : Rd w g p) (hp : p ≤ 1000000) (v : Value) (F : List Nat) (hx : Arr w (NatR w) ls v F) (hf : Under w.heap.size F) (hg : g ∉ F) :
    Calls Try.prog 73 #[.pointer (some ⟨g, 0, none⟩), v] w fun e w' => ∃ x, x ∈ ls ∧ e = .returned (.int .i64 x) ∧ Rd w' g (p + 1) ∧ Chg [g] w w' := by
  obtain ⟨A, cap, rfl, hc1, hc2⟩ := hx.form
  obtain ⟨b, off, rfl⟩ := hx.ptr (by omega)
  have HX := Lib.hid hx
  have HF := Lib.hid hf
  have HG := Lib.hid hg
  have HCALL := Lib.hid (pick_any ls.length p g w h hp hl1 (by omega))
  clear hx hf hg h
  go_enter Try.func73, Try.ntmps73
  go_wp2_with fail
  refine HCALL.out.mono ?_
  rintro e w' ⟨r, rfl, hr, hR, hC⟩
  obtain ⟨hb, c0⟩ := ArrNat.at HX.out HF.out (Below.refl _ _) r hr
  have hbF : b ∉ [g] := by
    obtain ⟨b', off', cs', G', e', hb', -⟩ := HX.out.get (NatR_len w) hr
    cases e'
    exact fun h => HG.out (by rw [← List.mem_singleton.1 h]; exact hb')
  have c1 : w'.cell? ⟨b, off + r, none⟩ = some (.int .i64 ls[r]) := (hC.cell hb hbF).trans c0
  have g1 : (0 : Int) ≤ (r : Int) := by omega
  have g2 : (r : Int) < (ls.length : Int) := by omega
  have HR := Lib.hid hR
  have HC := Lib.hid hC
  have HM := Lib.hid (List.getElem_mem hr)
  clear hR hC c0 HCALL
  go_wp2
  go_ret
  exact ⟨ls[r], HM.out, rfl, HR.out, HC.out⟩
theorem lit_nums (w : World) (ls : List Int) (hl : ls.length ≤ 1000) : Arr (w.alloc (.cells (ls.map (Value.int .i64)).toArray 3)) (NatR (w.alloc (.cells (ls.map (Value.int .i64)).toArray 3))) ls (.slice (some ⟨w.heap.size, 0, none⟩) ls.length ls.length) [w.heap.size] := by
  refine ⟨_, _, rfl, Nat.le_refl _, by unfold maxLen; omega, .inr ⟨w.heap.size, 0, ls.map (Value.int .i64), [], rfl, fun j u hj => ?_, ?_, rfl⟩⟩
  · rw [Nat.zero_add]
    refine ((Blk.new w 3 (ls.map (Value.int .i64)).toArray).cell j).trans ?_
    simpa using hj
  · clear hl
    induction ls with
    | nil => exact ⟨rfl, rfl⟩
    | cons x xs ih => exact ⟨[.int .i64 x], xs.map (Value.int .i64), [], [], rfl, rfl, ⟨rfl, rfl⟩, ih⟩
/-- a number out of a list that is written out at the call -/
theorem num_lit (ls : List Int) (hl1 : 1 ≤ ls.length) (hl2 : ls.length ≤ 1000) (p g : Nat) (w : World) (h : Rd w g p) (hp : p ≤ 1000000) :
    Calls Try.prog 73 #[.pointer (some ⟨g, 0, none⟩), .slice (some ⟨w.heap.size, 0, none⟩) ls.length ls.length] (w.alloc (.cells (ls.map (Value.int .i64)).toArray 3)) fun e w' => ∃ x, x ∈ ls ∧ e = .returned (.int .i64 x) ∧ Rd w' g (p + 1) ∧ Chg [g] w w' := by
  have hb : Below w.heap.size w (w.alloc (.cells (ls.map (Value.int .i64)).toArray 3)) := (Below.refl _ _).alloc (Nat.le_refl _) _
  have hlt := h.lt
  refine (num_any ls hl1 hl2 p g _ (h.below hb) hp _ _ (lit_nums w ls hl2) (fun b hb => by rw [List.mem_singleton.1 hb]; simp) (fun e => by rw [List.mem_singleton] at e; omega)).mono ?_
  rintro e w' ⟨x, hx, rfl, hR, hC⟩
  exact ⟨x, hx, rfl, hR, (Chg.of_below hb).trans hC⟩
end Go.Proofs.Ytilndhmegaccmaa

namespace Go.Proofs.Ytilndhmegaccmaa
open Go.RowKit

theorem Chg.set_new {F : List Nat} {w w2 : World} {b j : Nat} {u : Value} (h : Chg F w w2) (hb : w.heap.size ≤ b) : Chg F w (w2.setCell ⟨b, j, none⟩ u) :=
  ⟨h.os, h.tape, h.output, Nat.le_trans h.size (by simp [World.setCell]), fun c hc hF => (Below.heap_setCell _ _ _ _ (by show c ≠ b; omega)).trans (h.block c hc hF)⟩
/-- what l1Some gives -/
def DrewTy (g p n : Nat) (w : World) (e : Ending) (w' : World) : Prop := ∃ (t : Ty) (q : Nat), e = .returned (.agg #[.int .i64 t.d, .int .i64 t.i]) ∧ Rd w' g q ∧ q ≤ p + n ∧ Chg [g] w w'
end Go.Proofs.Ytilndhmegaccmaa

namespace Go.Proofs.Ytilndhmegaccmaa
open Go.RowKit

theorem Chg.frozen {F : List Nat} {w w' : World} (h : Chg F w w') {p : Addr} (hp : p.block < w.heap.size) (hn : p.block ∉ F) : w'.frozen? p = w.frozen? p := World.frozen?_of_block (w := w) (h.block p.block hp hn)
theorem Rd.keep {w w' : World} {g p : Nat} (h : Rd w g p) (hk : ∀ b, b ≤ g → w'.heap[b]? = w.heap[b]?) : Rd w' g p := by
  obtain ⟨A, cap, bs, F, h1, h2, h3, h5⟩ := h
  exact ⟨A, cap, bs, F, h1.same (hk g (Nat.le_refl _)), ArrBy.mono h2 (fun b hb => hk b (Nat.le_of_lt (h3 b hb))), h3, h5⟩
theorem Own.chg {α : Type} {R : World → α → List Value → List Nat → Prop} {w w' : World} {B k : Nat} {E : TypeId} {xs : List α} {v : Value} {F L : List Nat} (hRm : ∀ w w' x cs G, Kept G w w' → R w x cs G → R w' x cs G) (h : Own w B E k R xs v F) (hc : Chg L w w') (hL : ∀ b ∈ L, b < B) (hF : ∀ b ∈ F, B ≤ b) : Own w' B E k R xs v F :=
  h.mono (fun x cs G hk h => hRm _ _ x cs G hk h) (hc.kept (fun b hb => by
    rcases List.mem_append.1 hb with h1 | h1
    · exact (h.row b h1).2
    · exact h.under b h1) (fun b hb hl => by
    have h2 := hL b hl
    rcases List.mem_append.1 hb with h1 | h1
    · have := (h.row b h1).1; omega
    · have := hF b h1; omega)) hc.size
section
variable {α : Type} {w w9 wr wA w7 : World} {D Bz H k g : Nat} {T E : TypeId} {cells : Array Value} {R : World → α → List Value → List Nat → Prop} {xs ys : List α} {v v' : Value} {F G : List Nat} {o : Obj}
theorem kid_round3 (j : Nat) (hRm : ∀ w w' x cs G, Kept G w w' → R w x cs G → R w' x cs G) (hw9 : w9.heap.size = Bz) (hDB : D < Bz) (hgw : g < w.heap.size) (hwD : w.heap.size ≤ D) (KD : Blk wr D T cells) (HO : Own wr Bz E k R xs v F) (HFh : ∀ b ∈ F, Bz ≤ b) (HC : Chg [D, g] w9 wr) (hB : Chg [g] w wr)
    (hBu : Chg [g] wr wA) (hfsA : ∀ b ∈ G, wr.heap.size ≤ b ∧ b < wA.heap.size) (hown : Own w7 Bz E k R ys v' (F ++ G)) (hgr : (wA.alloc o).grownBy w7 v.ownBlock) {p : Nat} (hR : Rd wA g p) :
    Blk (w7.setCell ⟨D, j, none⟩ v') D T (cells.setIfInBounds j v') ∧ Own (w7.setCell ⟨D, j, none⟩ v') Bz E k R ys v' (F ++ G) ∧ (∀ b ∈ F ++ G, Bz ≤ b) ∧ Chg [D, g] w9 (w7.setCell ⟨D, j, none⟩ v') ∧ Chg [g] w (w7.setCell ⟨D, j, none⟩ v') ∧ w9.heap.size ≤ (w7.setCell ⟨D, j, none⟩ v').heap.size ∧ Rd (w7.setCell ⟨D, j, none⟩ v') g p := by
  have hlt := KD.lt
  have hA := hBu.size
  have hz := HC.size
  rw [hw9] at hz
  have hws := hB.size
  have hFG : ∀ b ∈ F ++ G, Bz ≤ b := fun b hb => by
    rcases List.mem_append.1 hb with h | h
    · exact HFh b h
    · have := (hfsA b h).1; omega
  have hBA7 : Below Bz wA w7 := ((Below.refl Bz wA).alloc (by omega) o).grown hgr (by rw [World.size_alloc]; omega) (fun g hg => (HO.row g (mem_rowOf.2 hg)).1)
  have hC7 : Chg [D, g] w9 w7 := chg_under (HC.trans (hBu.mono (by simp))) (by rw [hw9]; exact hBA7)
  have hC8 : Chg [D, g] w9 (w7.setCell ⟨D, j, none⟩ v') := hC7.set (by simp)
  have hne : ∀ b ∈ F ++ G, b ≠ D := fun b hb e => by have := hFG b hb; omega
  have hD7 : w7.heap[D]? = wr.heap[D]? := (hBA7.block D (by omega)).trans (hBu.block D hlt (by rw [List.mem_singleton]; omega))
  refine ⟨(KD.same hD7).set_ j v', Own.set (j := j) hRm hown v' (fun h => by have := (hown.row _ h).1; omega) (fun h => hne _ h rfl), hFG, hC8, ?_, hC8.size, hR.keep fun b hb => ?_⟩
  · exact (chg_under (hB.trans hBu) (hBA7.mono (by omega))).set_new hwD
  · exact (Below.heap_setCell w7 ⟨D, j, none⟩ v' b (by show b ≠ D; omega)).trans (hBA7.block b (by omega))
theorem kid_done3 (HO : Own wr D E k R xs v F) (HFh : ∀ b ∈ F, D ≤ b) (hHD : H ≤ D) : ∃ FF, Arr wr (R wr) xs v FF ∧ ∀ b ∈ FF, H ≤ b ∧ b < wr.heap.size :=
  ⟨_, HO.arr, fun b hb => by
    split at hb
    · cases hb
    · rcases List.mem_append.1 hb with h | h
      · have := HO.row b h; omega
      · have := HFh b h; have := HO.under b h; omega⟩
end
end Go.Proofs.Ytilndhmegaccmaa

namespace Go.Proofs.Ytilndhmegaccmaa
open Go.RowKit

def findS (names : List ByteArray) (s : ByteArray) : Int := findL (names.map tl) (tl s)
def findR (names : List ByteArray) (s : ByteArray) (k : Nat) : Int := findGo (tl s) k ((names.drop k).map tl)
theorem findR_hit {names : List ByteArray} {s : ByteArray} {k : Nat} (hk : k < names.length) (h : tl names[k] = tl s) : findR names s k = (k : Int) := by
  unfold findR
  rw [List.drop_eq_getElem_cons hk, List.map_cons, findGo, if_pos h]
theorem findR_miss {names : List ByteArray} {s : ByteArray} {k : Nat} (hk : k < names.length) (h : ¬ tl names[k] = tl s) : findR names s k = findR names s (k + 1) := by
  unfold findR
  rw [List.drop_eq_getElem_cons hk, List.map_cons, findGo, if_neg h]
theorem findR_end {names : List ByteArray} {s : ByteArray} {k : Nat} (hk : names.length ≤ k) : findR names s k = -2 := by
  unfold findR
  rw [List.drop_of_length_le hk]; rfl
theorem toList_tl (s : ByteArray) : s.toList = tl s := ByteArray.toList_eq s
theorem Blk.pair {w : World} {H : Nat} {T : TypeId} {a b : Value} (h : Blk w H T #[a, b]) (x y : Value) (o : Obj) : Blk (((w.setCell ⟨H, 0, none⟩ x).setCell ⟨H, 1, none⟩ y).alloc o) H T #[x, y] := by
  have h2 : Blk ((w.setCell ⟨H, 0, none⟩ x).setCell ⟨H, 1, none⟩ y) H T #[x, y] := (h.set_ 0 x).set_ 1 y
  exact h2.same (Below.heap_alloc _ _ _ h2.lt)
theorem below_pair {w w2 : World} {B H : Nat} (h : Below B w w2) (hw : B ≤ w.heap.size) (hH : B ≤ H) (x y : Value) (o : Obj) : Below B w (((w2.setCell ⟨H, 0, none⟩ x).setCell ⟨H, 1, none⟩ y).alloc o) := by
  have h2 : Below B w ((w2.setCell ⟨H, 0, none⟩ x).setCell ⟨H, 1, none⟩ y) := (h.setCell hH _).setCell hH _
  exact h2.alloc (by have := h.size; simp [World.setCell]; omega) _
theorem ret_ty {t : Ty} {a b : Int} (h : t = ⟨a, b⟩) : Ending.returned (.agg #[.int .i64 a, .int .i64 b]) = .returned (.agg #[.int .i64 t.d, .int .i64 t.i]) := by rw [h]
def pty (names : List ByteArray) (s : ByteArray) : Ty := parseTy (names.map tl) (tl s)
theorem pty_cons (names : List ByteArray) (s : ByteArray) (h : 1 ≤ s.size) : pty names s = ⟨findS names (s.extract 0 1), idxOf (tl (s.extract 1 s.size))⟩ := by
  have e1 : tl (s.extract 0 1) = [s[0]] := by
    rw [tl_extract, List.drop_zero]
    have : (tl s).take 1 = [(tl s)[0]'(by rw [tl_len]; omega)] := by
      rw [List.take_one]
      rw [List.head?_eq_getElem?, List.getElem?_eq_getElem (by rw [tl_len]; omega)]; rfl
    exact this
  have e2 : tl s = s[0] :: tl (s.extract 1 s.size) := by
    rw [tl_extract, List.take_of_length_le (by rw [tl_len]; exact Nat.le_refl _)]
    exact bytes_cons s (by omega)
  unfold pty
  rw [e2, parseTy]
  unfold findS
  rw [e1]
theorem idxOf_star {l : List UInt8} (h : l = [42]) : idxOf l = -1 := if_pos h
theorem idxOf_not {s : ByteArray} (h : ¬ tl (s.extract 1 s.size) = [42]) (h2 : s.size ≠ 2) : idxOf (tl (s.extract 1 s.size)) = 0 := by
  unfold idxOf
  rw [if_neg h]
  split
  · rename_i x e
    have := tl_len (s.extract 1 s.size)
    rw [e, ByteArray.size_extract] at this
    simp at this
    omega
  · rfl
theorem idxOf_two {s : ByteArray} (h : ¬ tl (s.extract 1 s.size) = [42]) (h2 : s.size = 2) (p2 : 1 < s.size) : idxOf (tl (s.extract 1 s.size)) = if 48 ≤ s[1].toNat ∧ s[1].toNat ≤ 57 then (s[1].toNat : Int) - 48 else 0 := by
  have e : tl (s.extract 1 s.size) = [s[1]] := by
    rw [tl_extract, List.take_of_length_le (by rw [tl_len]; exact Nat.le_refl _), List.drop_eq_getElem_cons (by rw [tl_len]; omega), List.drop_of_length_le (by rw [tl_len]; omega)]
    rfl
  rw [e] at h ⊢
  unfold idxOf
  rw [if_neg h]
set_option maxRecDepth 100000 in
set_option maxHeartbeats 1600000 in
theorem spec_l1Find (names : List ByteArray) (s : ByteArray) (w : World) (v : Value) (F : List Nat) (hx : Arr w (StrR w) names v F) (hf : Under w.heap.size F) :
    Calls Try.prog 180 #[v, .string s] w fun e w' => e = .returned (.int .i64 (findS names s)) ∧ Below w.heap.size w w' := by
  obtain ⟨A, cap, rfl, hc1, hc2⟩ := hx.form
  have HX := Lib.hid hx
  have HF := Lib.hid hf
  clear hx hf
  cases q0 : (s.toList == [73]) with
  | true =>
    have hf : Hid (findS names s = -1) := by
      rw [beq_iff_eq, toList_tl] at q0
      unfold Hid findS findL; rw [if_pos q0]
    go_enter Try.func180, Try.ntmps180
    go_wp2
    go_ret
    exact ⟨ret_int hf.out.symm, Below.refl _ _⟩
  | false =>
    have hf : Hid (findS names s = findR names s 0) := by
      rw [beq_eq_false_iff_ne, toList_tl] at q0
      unfold Hid findS findL; rw [if_neg q0]; rfl
    go_enter Try.func180, Try.ntmps180
    go_wp2
    go_loopw [5] (fun iv wr => ∃ k : Nat, k ≤ names.length ∧ iv = .int .i64 k ∧ Hid (findS names s = findR names s k) ∧ Below w.heap.size w wr) (fun iv _ => names.length - (intOf iv).toNat)
    case atStart => exact ⟨0, Nat.zero_le _, rfl, hf, Below.refl _ _⟩
    case round =>
      obtain ⟨k, hk, rfl, HT, hB⟩ := hrel
      by_cases hlt : k < names.length
      · have g1 : (0 : Int) ≤ (k : Int) := by omega
        have g2 : (k : Int) < (names.length : Int) := by omega
        obtain ⟨b, off, rfl⟩ := HX.out.ptr (by omega)
        obtain ⟨hb, c0⟩ := ArrStr.at HX.out HF.out hB k hlt
        cases q1 : (names[k].toList == s.toList) with
        | true =>
          have hf : Hid (findS names s = (k : Int)) := by
            rw [beq_iff_eq, toList_tl, toList_tl] at q1
            exact HT.out.trans (findR_hit hlt q1)
          go_wp2
          go_ret
          exact ⟨ret_int hf.out.symm, hB⟩
        | false =>
          have hf : Hid (findS names s = findR names s (k + 1)) := by
            rw [beq_eq_false_iff_ne, toList_tl, toList_tl] at q1
            exact HT.out.trans (findR_miss hlt q1)
          go_wp2
          go_roundw
          case rel => exact ⟨k + 1, by omega, by go_num, hf, hB⟩
          case measure => (simp [intOf] <;> omega)
      · have hf : Hid (findS names s = -2) := HT.out.trans (findR_end (by omega))
        go_wp2
        go_ret
        exact ⟨ret_int hf.out.symm, hB⟩
set_option maxRecDepth 100000 in
set_option maxHeartbeats 1600000 in
theorem spec_l1ParseType (names : List ByteArray) (s : ByteArray) (w : World) (v : Value) (F : List Nat) (hx : Arr w (StrR w) names v F) (hf : Under w.heap.size F) (hs : s.size ≤ 1000000) :
    Calls Try.prog 176 #[v, .string s] w fun e w' => e = .returned (.agg #[.int .i64 ((pty names s).d), .int .i64 ((pty names s).i)]) ∧ Below w.heap.size w w' := by
  obtain ⟨A, cap, rfl, hc1, hc2⟩ := hx.form
  have HX := Lib.hid hx
  have HF := Lib.hid hf
  clear hx hf
  by_cases h0 : s.size = 0
  · have q0 : (s.toList == []) = true := by
      rw [beq_iff_eq, toList_tl]; exact List.eq_nil_of_length_eq_zero (by rw [tl_len]; exact h0)
    have hf : Hid (pty names s = ⟨-2, 0⟩) := by
      rw [beq_iff_eq, toList_tl] at q0
      unfold Hid pty; rw [q0]; rfl
    go_enter Try.func176, Try.ntmps176
    go_wp2
    refine bodyPost_ret (results_cell_row rfl _ _ w.heap.size 32 #[.int .i64 (-2), .int .i64 0] (0, 0) _ rfl (Blk.new w _ _) Try.underlying32 rfl rfl) rfl ?_
    exact ⟨ret_ty hf.out, (Below.refl _ _).alloc (Nat.le_refl _) _⟩
  · have q0 : (s.toList == []) = false := by
      rw [beq_eq_false_iff_ne, toList_tl]; intro e; have := tl_len s; rw [e] at this; simp at this; omega
    have g1 : (1 : Int) ≤ (s.size : Int) := by omega
    have p1 : 1 ≤ s.size := by omega
    go_enter Try.func176, Try.ntmps176
    go_wp2_with fail
    obtain ⟨W1, hW1⟩ : ∃ W1, W1 = w.alloc (.cells #[.int .i64 0, .int .i64 0] 32) := ⟨_, rfl⟩
    have hB1 : Below w.heap.size w W1 := by rw [hW1]; exact (Below.refl _ _).alloc (Nat.le_refl _) _
    have K1 : Hid (Blk W1 w.heap.size 32 #[.int .i64 0, .int .i64 0]) := by rw [hW1]; exact Blk.new w _ _
    rw [← hW1]
    clear hW1
    refine (spec_l1Find names (s.extract 0 1) W1 _ F (ArrStr.below HX.out hB1 HF.out) (HF.out.mono hB1.size)).mono ?_
    rintro e w2 ⟨rfl, hb2⟩
    have hB2 := hB1.trans (hb2.mono hB1.size)
    have K2 := Lib.hid (K1.out.same (hb2.block _ K1.out.lt))
    clear hb2 hB1 K1
    have k0 : w2.cell? ⟨w.heap.size, 0, none⟩ = some (.int .i64 0) := (K2.out.cell 0).trans (by simp)
    have k1 : w2.cell? ⟨w.heap.size, 1, none⟩ = some (.int .i64 0) := (K2.out.cell 1).trans (by simp)
    have f0 := K2.out.frozen 0
    have f1 := K2.out.frozen 1
    have klt := K2.out.lt
    generalize hdd : findS names (s.extract 0 1) = dd
    have HDD := Lib.hid hdd
    clear hdd
    have HP := Lib.hid (pty_cons names s p1)
    cases q1 : ((s.extract 1 s.size).toList == [42]) with
    | true =>
      have hf : Hid (pty names s = ⟨dd, -1⟩) := by
        rw [beq_iff_eq, toList_tl] at q1
        unfold Hid; rw [HP.out, HDD.out, idxOf_star q1]
      go_wp2
      refine bodyPost_ret (results_cell_row rfl _ _ w.heap.size 32 #[.int .i64 dd, .int .i64 (-1)] (0, 0) _ rfl (K2.out.pair _ _ _) Try.underlying32 rfl rfl) rfl ?_
      exact ⟨ret_ty hf.out, below_pair hB2 (Nat.le_refl _) (Nat.le_refl _) _ _ _⟩
    | false =>
      have HN : Hid (¬ tl (s.extract 1 s.size) = [42]) := by
        rw [beq_eq_false_iff_ne, toList_tl] at q1
        exact q1
      by_cases h2 : s.size = 2
      · have q2 : ((s.size : Int) == 2) = true := by simp; omega
        have p2 : 1 < s.size := by omega
        have p3 : (1 : Int) < (s.size : Int) := by omega
        have HI := Lib.hid (idxOf_two HN.out h2 p2)
        clear h2
        by_cases ha : 48 ≤ s[1].toNat
        · have q3 : decide ((s[1].toNat : Int) ≥ 48) = true := decide_eq_true (by omega)
          by_cases hz : s[1].toNat ≤ 57
          · have q4 : decide ((s[1].toNat : Int) ≤ 57) = true := decide_eq_true (by omega)
            have hf : Hid (pty names s = ⟨dd, (s[1].toNat : Int) - 48⟩) := by unfold Hid; rw [HP.out, HDD.out, HI.out, if_pos ⟨ha, hz⟩]
            have b1 : 48 ≤ (s[1].toNat : Int) := by omega
            have b2 : (s[1].toNat : Int) ≤ 57 := by omega
            go_wp2
            refine bodyPost_ret (results_cell_row rfl _ _ w.heap.size 32 #[.int .i64 dd, .int .i64 ((s[1].toNat : Int) - 48)] (0, 0) _ rfl (K2.out.pair _ _ _) Try.underlying32 rfl rfl) rfl ?_
            exact ⟨ret_ty hf.out, below_pair hB2 (Nat.le_refl _) (Nat.le_refl _) _ _ _⟩
          · have q4 : decide ((s[1].toNat : Int) ≤ 57) = false := decide_eq_false (by omega)
            have hf : Hid (pty names s = ⟨dd, 0⟩) := by unfold Hid; rw [HP.out, HDD.out, HI.out, if_neg (fun h => hz h.2)]
            go_wp2
            refine bodyPost_ret (results_cell_row rfl _ _ w.heap.size 32 #[.int .i64 dd, .int .i64 (0)] (0, 0) _ rfl (K2.out.pair _ _ _) Try.underlying32 rfl rfl) rfl ?_
            exact ⟨ret_ty hf.out, below_pair hB2 (Nat.le_refl _) (Nat.le_refl _) _ _ _⟩
        · have q3 : decide ((s[1].toNat : Int) ≥ 48) = false := decide_eq_false (by omega)
          have hf : Hid (pty names s = ⟨dd, 0⟩) := by unfold Hid; rw [HP.out, HDD.out, HI.out, if_neg (fun h => ha h.1)]
          go_wp2
          refine bodyPost_ret (results_cell_row rfl _ _ w.heap.size 32 #[.int .i64 dd, .int .i64 (0)] (0, 0) _ rfl (K2.out.pair _ _ _) Try.underlying32 rfl rfl) rfl ?_
          exact ⟨ret_ty hf.out, below_pair hB2 (Nat.le_refl _) (Nat.le_refl _) _ _ _⟩
      · have q2 : ((s.size : Int) == 2) = false := by rw [beq_eq_false_iff_ne]; omega
        have hf : Hid (pty names s = ⟨dd, 0⟩) := by unfold Hid; rw [HP.out, HDD.out, idxOf_not HN.out h2]
        go_wp2
        refine bodyPost_ret (results_cell_row rfl _ _ w.heap.size 32 #[.int .i64 dd, .int .i64 (0)] (0, 0) _ rfl (K2.out.pair _ _ _) Try.underlying32 rfl rfl) rfl ?_
        exact ⟨ret_ty hf.out, below_pair hB2 (Nat.le_refl _) (Nat.le_refl _) _ _ _⟩
end Go.Proofs.Ytilndhmegaccmaa

namespace Go.Proofs.Ytilndhmegaccmaa
open Go.RowKit

def pkt (names : List ByteArray) (s : ByteArray) : Kt := parseKt (names.map tl) (tl s)
def pbody (names : List ByteArray) (idx : Int) (s : ByteArray) : Kt := parseBody (names.map tl) idx (tl s)
theorem cutL_pos (c : UInt8) (l : List UInt8) : 0 < (cutL c l).length := by
  have key : ∀ (l cur : List UInt8), 0 < (cutGo c cur l).length := by
    intro l
    induction l with
    | nil => intro cur; simp [cutGo]
    | cons x xs ih => intro cur; rw [cutGo]; split <;> simp [ih]
  exact key l []
theorem cutS_pos (c : UInt8) (s : ByteArray) : 0 < (cutS c s).length := by unfold cutS; rw [List.length_map]; exact cutL_pos c _
theorem pbody_short {names : List ByteArray} {idx : Int} {s : ByteArray} (h : (cutS 40 s).length < 2) : pbody names idx s = ⟨(cutS 40 s)[0]'(cutS_pos 40 s), [], idx⟩ := by
  have hp := cutL_pos 40 (tl s)
  unfold pbody parseBody
  have key : ∀ (L : List (List UInt8)) (hp : 0 < L.length), (L.map bs).length < 2 → (⟨bs (headL L), parseArgs (names.map tl) L, idx⟩ : Kt) = ⟨(L.map bs)[0]'(by simpa using hp), [], idx⟩ := by
    intro L hp hl
    match L, hp, hl with
    | [x], _, _ => rfl
    | _ :: _ :: _, _, hl => simp at hl; omega
  exact key _ hp h
theorem pbody_empty {names : List ByteArray} {idx : Int} {s : ByteArray} (h : 1 < (cutS 40 s).length) (h0 : (cutS 40 s)[1].size = 0) : pbody names idx s = ⟨(cutS 40 s)[0]'(cutS_pos 40 s), [], idx⟩ := by
  have hp := cutL_pos 40 (tl s)
  unfold pbody parseBody
  have key : ∀ (L : List (List UInt8)) (hp : 0 < L.length) (h : 1 < (L.map bs).length), (L.map bs)[1].size = 0 → (⟨bs (headL L), parseArgs (names.map tl) L, idx⟩ : Kt) = ⟨(L.map bs)[0]'(by simpa using hp), [], idx⟩ := by
    intro L hp h hz
    match L, hp, h, hz with
    | x :: p :: l, _, _, hz =>
      have hpe : p = [] := List.eq_nil_of_length_eq_zero hz
      subst hpe
      rfl
    | [_], _, h, _ => simp at h
  exact key _ hp h h0
theorem pbody_args {names : List ByteArray} {idx : Int} {s : ByteArray} (h : 1 < (cutS 40 s).length) (h0 : (cutS 40 s)[1].size ≠ 0) : pbody names idx s = ⟨(cutS 40 s)[0]'(cutS_pos 40 s), ((cutS 44 ((cutS 40 s)[1].extract 0 ((cutS 40 s)[1].size - 1))).take 4).map (pty names), idx⟩ := by
  have hp := cutL_pos 40 (tl s)
  unfold pbody parseBody
  have key : ∀ (L : List (List UInt8)) (hp : 0 < L.length) (h : 1 < (L.map bs).length), (L.map bs)[1].size ≠ 0 → (⟨bs (headL L), parseArgs (names.map tl) L, idx⟩ : Kt) = ⟨(L.map bs)[0]'(by simpa using hp), ((cutS 44 ((L.map bs)[1].extract 0 ((L.map bs)[1].size - 1))).take 4).map (pty names), idx⟩ := by
    intro L hp h hz
    match L, hp, h, hz with
    | x :: p :: l, _, _, hz =>
      have hpe : ¬ p = [] := fun e => hz (by subst e; rfl)
      have e1 : tl ((bs p).extract 0 ((bs p).size - 1)) = p.take (p.length - 1) := by rw [tl_extract, tl_bs, List.drop_zero]; rfl
      have e2 : parseArgs (names.map tl) (x :: p :: l) = ((cutL 44 (p.take (p.length - 1))).take 4).map (parseTy (names.map tl)) := by
        show (if p = [] then [] else _) = _
        rw [if_neg hpe]
      have e3 : ((cutS 44 ((bs p).extract 0 ((bs p).size - 1))).take 4).map (pty names) = ((cutL 44 (p.take (p.length - 1))).take 4).map (parseTy (names.map tl)) := by
        unfold cutS
        rw [e1, ← List.map_take, List.map_map]
        rfl
      rw [e2, ← e3]
      rfl
    | [_], _, h, _ => simp at h
  exact key _ hp h h0
theorem hasIdx_no {s : ByteArray} (h : ¬ 2 < s.size) : hasIdx (tl s) = false := by unfold hasIdx; rw [tl_len, decide_eq_false h]; rfl
theorem hasIdx_at {s : ByteArray} (h : 2 < s.size) : hasIdx (tl s) = (s[s.size - 2] == 58) := by
  unfold hasIdx
  rw [tl_len, decide_eq_true h, Bool.true_and, Bool.eq_iff_iff]
  have : (tl s).getD (s.size - 2) 0 = s[s.size - 2] := by
    rw [List.getD_eq_getElem?_getD, List.getElem?_eq_getElem (by rw [tl_len]; omega)]; rfl
  rw [this]
  simp
theorem pkt_no {names : List ByteArray} {s : ByteArray} (h : hasIdx (tl s) = false) : pkt names s = pbody names 0 s := by unfold pkt parseKt; rw [if_neg (by simp [h])]; rfl
theorem pkt_yes {names : List ByteArray} {s : ByteArray} (h : hasIdx (tl s) = true) (h2 : 2 < s.size) : pkt names s = pbody names ((s[s.size - 1].toNat : Int) - 48) (s.extract 0 (s.size - 2)) := by
  have h3 : (tl s).getD ((tl s).length - 1) 0 = s[s.size - 1] := by
    rw [List.getD_eq_getElem?_getD, tl_len, List.getElem?_eq_getElem (by rw [tl_len]; omega)]; rfl
  unfold pkt parseKt pbody
  rw [if_pos h, h3, tl_extract, List.drop_zero, tl_len]
theorem pbody_short' {names : List ByteArray} {idx : Int} {s : ByteArray} {parts : List ByteArray} (e : cutS 40 s = parts) (hp : 0 < parts.length) (h : parts.length < 2) : pbody names idx s = ⟨parts[0], [], idx⟩ := by subst e; exact pbody_short h
theorem pbody_empty' {names : List ByteArray} {idx : Int} {s : ByteArray} {parts : List ByteArray} (e : cutS 40 s = parts) (h : 1 < parts.length) (h0 : parts[1].size = 0) : pbody names idx s = ⟨parts[0], [], idx⟩ := by subst e; exact pbody_empty h h0
theorem pbody_args' {names : List ByteArray} {idx : Int} {s : ByteArray} {parts : List ByteArray} (e : cutS 40 s = parts) (h : 1 < parts.length) (h0 : parts[1].size ≠ 0) : pbody names idx s = ⟨parts[0], ((cutS 44 (parts[1].extract 0 (parts[1].size - 1))).take 4).map (pty names), idx⟩ := by subst e; exact pbody_args h h0
theorem map_take_snoc {α β : Type} (f : α → β) (l : List α) (j : Nat) (h : j < l.length) : (l.take (j + 1)).map f = (l.take j).map f ++ [f l[j]] := by rw [take_snoc' l j h, List.map_append]; rfl
def ptysTo (names ags : List ByteArray) (i : Nat) : List Ty := (ags.take i).map (pty names)
theorem ptysTo_succ (names ags : List ByteArray) (i : Nat) (h : i < ags.length) : ptysTo names ags (i + 1) = ptysTo names ags i ++ [pty names ags[i]] := map_take_snoc _ _ _ h
theorem ptysTo_len (names ags : List ByteArray) (i : Nat) : (ptysTo names ags i).length ≤ i := by unfold ptysTo; rw [List.length_map, List.length_take]; omega
def GivesKt (w : World) (c : Kt) (e : Ending) (w' : World) : Prop := ∃ cs F, e = .returned (.agg cs.toArray) ∧ Below w.heap.size w w' ∧ KtR w' c cs F ∧ Free w' F ∧ Fresh w w' F
theorem Blk.triple {w : World} {H : Nat} {T : TypeId} {a b c : Value} (h : Blk w H T #[a, b, c]) (x y z : Value) : Blk (((w.setCell ⟨H, 0, none⟩ x).setCell ⟨H, 1, none⟩ y).setCell ⟨H, 2, none⟩ z) H T #[x, y, z] := ((h.set_ 0 x).set_ 1 y).set_ 2 z
theorem below_triple {w w2 : World} {B H : Nat} (h : Below B w w2) (hH : B ≤ H) (x y z : Value) : Below B w (((w2.setCell ⟨H, 0, none⟩ x).setCell ⟨H, 1, none⟩ y).setCell ⟨H, 2, none⟩ z) := ((h.setCell hH _).setCell hH _).setCell hH _
theorem GivesKt.done {w W : World} {H B : Nat} {c : Kt} {E : TypeId} {nm : ByteArray} {idx : Int} {kv : Value} {xs : List Ty} (hc : c = ⟨nm, xs, idx⟩) (hB : Below w.heap.size w W) (hH : w.heap.size = H) (hlt : H < W.heap.size) (ho : Own W B E 2 TyR xs kv []) (hB1 : H < B) (hn : nm.size ≤ 9223372036854775807) (x y z : Value) :
    GivesKt w c (.returned (.agg #[.string nm, kv, .int .i64 idx])) (((W.setCell ⟨H, 0, none⟩ x).setCell ⟨H, 1, none⟩ y).setCell ⟨H, 2, none⟩ z) := by
  subst hc hH
  have hr : w.heap.size ∉ rowOf kv := fun h => by have := (ho.row _ h).1; omega
  have h0 := Own.set (j := 0) TyR_mono' ho x hr (fun h => by cases h)
  have h1 := Own.set (j := 1) TyR_mono' h0 y hr (fun h => by cases h)
  have h2 := Own.set (j := 2) TyR_mono' h1 z hr (fun h => by cases h)
  exact ⟨[.string nm, kv, .int .i64 idx], _, rfl, below_triple hB (Nat.le_refl _) _ _ _, ⟨kv, rfl, h2.arr, hn⟩, h2.free (Free.nil _), h2.fresh (Nat.le_of_lt hB1) (fun b hb => by cases hb)⟩
theorem Chg.under {F : List Nat} {a b c : World} (h : Chg F a b) (k : Below a.heap.size b c) : Chg F a c :=
  ⟨k.os.trans h.os, k.tape.trans h.tape, k.output.trans h.output, Nat.le_trans h.size k.size, fun i hi hF => (k.block i hi).trans (h.block i hi hF)⟩
end Go.Proofs.Ytilndhmegaccmaa
