/-
  Lemmas and contracts of functions: What a pattern for a type is, in plain Lean: the shape of its nodes, its variables, and that each stands once. Conditions: none. Least depths of values, in plain Lean: sweeps over a table reach a fixed point after ls many sweeps ls there are entries and one more. Conditions: the world is valid. Sweeps over a table of least depths reach a fixed point: as many as there are entries and one more are enough. Conditions: the world is valid. The constructors that can make values of a type, in plain Lean. Conditions: none. Least depths in plain Lean: the least depth of a type is that of a constructor; any index is no deeper than a given one. Conditions: the world is valid. Patterns in memory: an element in view; nodes. Conditions: none. Values as Lean data, and how they lie in memory. Conditions: none. l1Slot, l1Depth, l1Most of the reference: depths by a table. Conditions: the world is valid, the entries are small. depths.of and depths.ofCtor of the program. Conditions: the world is valid, the entries are small. Writing every part of a datum anew (mark) and reading it back (held): what changes in memory. Conditions: none. l1Table of the reference. Conditions: the world is valid. depthsOf of the program. Conditions: the world is valid. LeastDepth and Inhabited of both. Conditions: none. l2Fits of the reference: a value fits a type. Conditions: the world is valid, the depth is no more than 10. Least values, in plain Lean. Conditions: the world is valid.
-/
import Derived.Test.YtbffkgfhcmigaaaKAA
import Derived.Test.YtbffkgfhcmigaaaKAB
import Derived.Deep.RegionWith
import Derived.Deep.QuietTactic
import Derived.BigQuiet
import Derived.WalkLawsBesides
import Derived.Deep.RegionHeld3
import Derived.Laws.OwnMore
import Derived.Deep.LoopGhost
import Derived.IntWalk

set_option linter.unusedVariables false
set_option linter.unusedSimpArgs false

namespace Go.Proofs.Ytbffkgfhcmigaaa
open Go.RowKit

def namedB (p : P) : Bool := p.op == 2 || p.op == 6
def kindB (xs : List Dt) (t : Ty) (p : P) : Bool := if p.op = 3 then t.d == -1 && (decide (0 ≤ p.n) && (decide (p.n ≤ p.m) && decide (p.m ≤ 9))) else if p.op = 4 then hasB (ctorsL xs t) p.ct else (p.op == 1 || (p.op == 2 || (p.op == 5 || p.op == 6)))
/-- the fields of a node are right, apart from its kids -/
def ownB (xs : List Dt) (t : Ty) (p : P) : Bool := (if namedB p = true then decide (0 ≤ p.va) && decide (p.va ≤ 5) else p.va == 0) && ((p.op == 3 || (p.n == 0 && p.m == 0)) && ((p.op == 4 || p.ct == 0) && kindB xs t p))
def kidsN (op : Int) : Nat := if op = 5 then 2 else if op = 6 then 1 else 0
/-- the types of the kids -/
def typesP (xs : List Dt) (t : Ty) (p : P) : List Ty := if p.op = 4 then argsOf xs t p.ct else List.replicate (kidsN p.op) t
def shapeB (xs : List Dt) : Nat → Ty → P → Bool
  | 0, _, _ => false
  | d + 1, t, p => ownB xs t p && (p.ks.length == (typesP xs t p).length && ((typesP xs t p).zip p.ks).all fun x => shapeB xs d x.1 x.2)
def nodesP (p : P) : Nat := p.size + 1
/-- the kids whose variables count: of an alternative the first alone -/
def kidsV (xs : List Dt) (t : Ty) (p : P) : List (Ty × P) := ((typesP xs t p).zip p.ks).take (if p.op = 5 then 1 else p.ks.length)
/-- the variables of a pattern -/
def varsN (xs : List Dt) : Nat → Ty → P → List Vt
  | 0, _, _ => []
  | d + 1, t, p => (if namedB p = true then [⟨p.va, t⟩] else []) ++ (kidsV xs t p).flatMap fun x => varsN xs d x.1 x.2
def dupFree (l : List Vt) : Bool := decide ((l.map Vt.var).Nodup)
/-- the reference's test of two lists -/
def alikeB (a b : List Vt) : Bool := (a.all fun v => match b.find? fun u => u.var == v.var with | some u => (u.ty.d == v.ty.d && u.ty.i == v.ty.i) | none => false) && a.length == b.length
/-- the program's test of two lists -/
def sameV (a b : List Vt) : Bool := a.length == b.length && a.all fun v => b.any fun u => Vt.same u v
def linB (xs : List Dt) : Nat → Ty → P → Bool
  | 0, _, _ => true
  | d + 1, t, p => (((typesP xs t p).zip p.ks).all fun x => linB xs d x.1 x.2) && (if p.op = 5 then (match p.ks with | [k0, k1] => alikeB (varsN xs d t k0) (varsN xs d t k1) | _ => true) else dupFree (varsN xs (d + 1) t p))
def patOkB (xs : List Dt) (t : Ty) (p : P) : Bool := shapeB xs 10 t p && (decide (nodesP p ≤ 60) && linB xs 10 t p)

theorem typesP_or {xs : List Dt} {t : Ty} {p : P} (h : p.op = 5) : typesP xs t p = [t, t] := by
  unfold typesP kidsN
  rw [if_neg (by omega), if_pos h]; rfl
theorem typesP_as {xs : List Dt} {t : Ty} {p : P} (h : p.op = 6) : typesP xs t p = [t] := by
  unfold typesP kidsN
  rw [if_neg (by omega), if_neg (by omega), if_pos h]; rfl
theorem kids_two {α : Type} {l : List α} (h : l.length = 2) : ∃ a b, l = [a, b] := by
  match l, h with
  | [a, b], _ => exact ⟨a, b, rfl⟩
/-- where the shape is right and each variable stands once, the variables are apart -/
theorem lin_dup (xs : List Dt) : ∀ (d : Nat) (t : Ty) (p : P), shapeB xs d t p = true → linB xs d t p = true → dupFree (varsN xs d t p) = true
  | 0, _, _, h, _ => by simp [shapeB] at h
  | d + 1, t, p, hs, hl => by
    simp only [shapeB, linB, Bool.and_eq_true] at hs hl
    by_cases h5 : p.op = 5
    · have hty := typesP_or (xs := xs) (t := t) h5
      obtain ⟨h1, h2, h3⟩ := hs
      rw [hty] at h2 h3
      obtain ⟨k0, k1, hk⟩ := kids_two (by simpa using h2)
      have hv : varsN xs (d + 1) t p = varsN xs d t k0 := by
        have e : varsN xs (d + 1) t p = (if namedB p = true then [⟨p.va, t⟩] else []) ++ (kidsV xs t p).flatMap fun x => varsN xs d x.1 x.2 := rfl
        have kv : kidsV xs t p = [(t, k0)] := by unfold kidsV; rw [hty, hk, h5]; rfl
        have nb : namedB p = false := by unfold namedB; rw [h5]; rfl
        rw [e, kv, nb]
        simp
      rw [hv]
      rw [hk] at h3
      have hl1 := hl.1
      rw [hty, hk] at hl1
      simp only [List.zip_cons_cons, List.zip_nil_right, List.all_cons, List.all_nil, Bool.and_true, Bool.and_eq_true] at h3 hl1
      exact lin_dup xs d t k0 h3.1 hl1.1
    · have hl2 := hl.2
      rwa [if_neg h5] at hl2
theorem find_of_nodup : ∀ {b : List Vt} {u : Vt}, (b.map Vt.var).Nodup → u ∈ b → b.find? (fun x => x.var == u.var) = some u
  | [], _, _, h => by cases h
  | x :: b, u, hn, h => by
    rw [List.map_cons, List.nodup_cons] at hn
    rcases List.mem_cons.1 h with rfl | h
    · simp
    · have hx : (x.var == u.var) = false := by
        rw [beq_eq_false_iff_ne]
        intro e
        exact hn.1 (by rw [e]; exact List.mem_map_of_mem h)
      rw [List.find?_cons, hx]
      exact find_of_nodup hn.2 h
theorem alike_same {a b : List Vt} (hb : dupFree b = true) : alikeB a b = sameV a b := by
  have hn : (b.map Vt.var).Nodup := of_decide_eq_true hb
  have key : ∀ v : Vt, (match b.find? fun u => u.var == v.var with | some u => (u.ty.d == v.ty.d && u.ty.i == v.ty.i) | none => false) = b.any fun u => Vt.same u v := fun v => by
    rw [Bool.eq_iff_iff, List.any_eq_true]
    constructor
    · intro h
      split at h
      · rename_i u hu
        have hm := List.mem_of_find?_eq_some hu
        have hv := List.find?_some hu
        exact ⟨u, hm, by
          unfold Vt.same
          rw [hv]
          simpa using h⟩
      · cases h
    · rintro ⟨u, hm, hu⟩
      obtain rfl := (Vt.same_iff u v).1 hu
      rw [find_of_nodup hn hm]
      simp
  unfold alikeB sameV
  rw [Bool.and_comm]
  congr 1
  exact congrArg (fun f => a.all f) (funext key)
end Go.Proofs.Ytbffkgfhcmigaaa

namespace Go.Proofs.Ytbffkgfhcmigaaa
open Go.RowKit

def slotOf (t : Ty) : Nat := t.d.toNat * 4 + t.i.toNat
def tyAt (s : Nat) : Ty := ⟨((s / 4 : Nat) : Int), ((s % 4 : Nat) : Int)⟩
/-- the depth that a table has for a type, 0 for none -/
def depthIn (tab : List Int) (t : Ty) : Int := if t.d = -1 then 1 else tab.getD (slotOf t) 0
def mostGo (tab : List Int) : Int → List Ty → Int
  | m, [] => m + 1
  | m, a :: ls => if depthIn tab a = 0 then 0 else mostGo tab (max m (depthIn tab a)) ls
def mostIn (xs : List Dt) (tab : List Int) (t : Ty) (k : Int) : Int := mostGo tab 0 (argsOf xs t k)
/-- one constructor of slot s looked at -/
def better (tab : List Int) (s : Nat) (n : Int) : Bool := decide (0 < n) && (decide (tab.getD s 0 = 0) || decide (n < tab.getD s 0))
def putIf (tab : List Int) (s : Nat) (n : Int) : List Int := if better tab s n = true then tab.set s n else tab
def slotGo (xs : List Dt) (s : Nat) (tab : List Int) (ks : List Int) : List Int := ks.foldl (fun tab k => putIf tab s (mostIn xs tab (tyAt s) k)) tab
def sweepTo (xs : List Dt) (tab : List Int) (s : Nat) : List Int := (List.range s).foldl (fun tab s => slotGo xs s tab (ctorsL xs (tyAt s))) tab
def sweep (xs : List Dt) (tab : List Int) : List Int := sweepTo xs tab (xs.length * 4)
def sweeps (xs : List Dt) : Nat → List Int
  | 0 => List.replicate (xs.length * 4) 0
  | n + 1 => sweep xs (sweeps xs n)
def tableL (xs : List Dt) : List Int := sweeps xs (xs.length * 4 + 1)

theorem putIf_length (tab : List Int) (s : Nat) (n : Int) : (putIf tab s n).length = tab.length := by unfold putIf; split <;> simp
theorem slotGo_nil (xs : List Dt) (s : Nat) (tab : List Int) : slotGo xs s tab [] = tab := rfl
theorem slotGo_cons (xs : List Dt) (s : Nat) (tab : List Int) (k : Int) (ks : List Int) : slotGo xs s tab (k :: ks) = slotGo xs s (putIf tab s (mostIn xs tab (tyAt s) k)) ks := rfl
theorem slotGo_snoc (xs : List Dt) (s : Nat) (tab : List Int) (ks : List Int) (k : Int) : slotGo xs s tab (ks ++ [k]) = putIf (slotGo xs s tab ks) s (mostIn xs (slotGo xs s tab ks) (tyAt s) k) := by
  unfold slotGo; rw [List.foldl_append]; rfl
theorem slotGo_length (xs : List Dt) (s : Nat) : ∀ (ks : List Int) (tab : List Int), (slotGo xs s tab ks).length = tab.length
  | [], tab => rfl
  | k :: ks, tab => by rw [slotGo_cons, slotGo_length xs s ks, putIf_length]
theorem sweepTo_zero (xs : List Dt) (tab : List Int) : sweepTo xs tab 0 = tab := rfl
theorem sweepTo_succ (xs : List Dt) (tab : List Int) (s : Nat) : sweepTo xs tab (s + 1) = slotGo xs s (sweepTo xs tab s) (ctorsL xs (tyAt s)) := by
  unfold sweepTo; rw [List.range_succ, List.foldl_append]; rfl
theorem sweepTo_length (xs : List Dt) (tab : List Int) : ∀ s, (sweepTo xs tab s).length = tab.length
  | 0 => rfl
  | s + 1 => by rw [sweepTo_succ, slotGo_length, sweepTo_length xs tab s]
theorem sweeps_length (xs : List Dt) : ∀ n, (sweeps xs n).length = xs.length * 4
  | 0 => by simp [sweeps]
  | n + 1 => by show (sweepTo xs _ _).length = _; rw [sweepTo_length, sweeps_length xs n]

/-! ### Types with a value of a depth -/
def hasD (xs : List Dt) : Nat → Ty → Prop
  | 0, _ => False
  | n + 1, t => t.d = -1 ∨ ∃ k ∈ ctorsL xs t, ∀ a ∈ argsOf xs t k, hasD xs n a
theorem hasD_mono {xs : List Dt} : ∀ {n : Nat} {t : Ty}, hasD xs n t → hasD xs (n + 1) t
  | 0, _, h => h.elim
  | n + 1, t, h => by
    rcases h with h | ⟨k, hk, h⟩
    · exact .inl h
    · exact .inr ⟨k, hk, fun a ha => hasD_mono (h a ha)⟩
theorem hasD_le {xs : List Dt} {n m : Nat} {t : Ty} (h : hasD xs n t) (hm : n ≤ m) : hasD xs m t := by
  induction hm with
  | refl => exact h
  | step _ ih => exact hasD_mono ih
/-- a type of values in the world -/
def TyIn (n : Nat) (t : Ty) : Prop := t.d = -1 ∨ ∃ d i : Nat, t = ⟨(d : Int), (i : Int)⟩ ∧ d < n ∧ i < 4
theorem TyIn.inWorld {n : Nat} {t : Ty} (h : TyIn n t) : InWorld n t := by
  rcases h with h | ⟨d, i, rfl, h1, h2⟩
  · exact .inl h
  · exact .inr ⟨d, rfl, h1⟩
theorem typeOkB_tyIn {n : Nat} {t : Ty} (h : typeOkB n t = true) : TyIn n t := by
  unfold typeOkB at h
  by_cases e : t.d = -1
  · exact .inl e
  · rw [if_neg e] at h
    simp [withinB] at h
    refine .inr ⟨t.d.toNat, t.i.toNat, ?_, by omega, by omega⟩
    obtain ⟨t1, t2⟩ := t
    simp only at h ⊢
    congr 1 <;> omega
theorem slotOf_mk (d i : Nat) : slotOf ⟨(d : Int), (i : Int)⟩ = d * 4 + i := by unfold slotOf; simp
theorem tyAt_mk {d i : Nat} (h : i < 4) : tyAt (d * 4 + i) = ⟨(d : Int), (i : Int)⟩ := by
  unfold tyAt
  rw [show (d * 4 + i) / 4 = d by omega, show (d * 4 + i) % 4 = i by omega]
theorem TyIn.slot {n : Nat} {t : Ty} (h : TyIn n t) (hd : ¬ t.d = -1) : slotOf t < n * 4 ∧ tyAt (slotOf t) = t := by
  rcases h with h | ⟨d, i, rfl, h1, h2⟩
  · exact absurd h hd
  · rw [slotOf_mk, tyAt_mk h2]
    exact ⟨by omega, rfl⟩
theorem tyAt_in {n s : Nat} (h : s < n * 4) : TyIn n (tyAt s) := .inr ⟨s / 4, s % 4, rfl, by omega, by omega⟩
theorem tyAt_slot (s : Nat) : slotOf (tyAt s) = s := by
  unfold tyAt
  rw [slotOf_mk]
  omega
theorem tyAt_not (s : Nat) : ¬ (tyAt s).d = -1 := by unfold tyAt; simp only; omega
theorem argTy_in {n : Nat} {c : Kt} (hc : KtOk n c) {i : Int} (h0 : 0 ≤ i) (h3 : i ≤ 3) {a : Ty} (ha : a ∈ argsL c i) : TyIn n a := by
  unfold argsL at ha
  obtain ⟨b, hb, rfl⟩ := List.mem_map.1 ha
  have hok := hc.all b hb
  have hr : 0 ≤ resIdx c i ∧ resIdx c i ≤ 3 := by
    unfold resIdx
    split
    · exact ⟨h0, h3⟩
    · exact ⟨hc.lo, hc.hi⟩
  unfold argOkB at hok
  cases q : (b.i == -1) with
  | true =>
    rw [argTy_yes q]
    by_cases e : b.d = -1
    · exact .inl e
    · rw [if_neg e] at hok
      simp [withinB] at hok
      refine .inr ⟨b.d.toNat, (resIdx c i).toNat, ?_, by omega, by omega⟩
      congr 1 <;> omega
  | false =>
    rw [argTy_no q]
    have q' : ¬ b.i = -1 := by simpa using q
    by_cases e : b.d = -1
    · exact .inl e
    · rw [if_neg e] at hok
      simp [withinB] at hok
      refine .inr ⟨b.d.toNat, b.i.toNat, ?_, by omega, by omega⟩
      obtain ⟨b1, b2⟩ := b
      simp only at hok q' ⊢
      congr 1 <;> omega
theorem argsOf_in {xs : List Dt} (hw : WorldOK xs) {t : Ty} (ht : TyIn xs.length t) {k : Int} (hk : k ∈ ctorsL xs t) {a : Ty} (ha : a ∈ argsOf xs t k) : TyIn xs.length a := by
  rcases ht with h | ⟨d, i, rfl, h1, h2⟩
  · rw [ctorsL_int h] at hk; cases hk
  · obtain ⟨d', m, e1, rfl, hd, hm⟩ := mem_ctorsL (.inr ⟨d, rfl, h1⟩) hk
    obtain rfl : d = d' := Int.ofNat.inj e1
    rw [argsOf_get hd hm] at ha
    exact argTy_in (hw.ctor hd hm) (by omega) (by omega) ha

/-! ### What an entry says -/
theorem mostGo_zero {tab : List Int} : ∀ {ls : List Ty} {m : Int}, 0 ≤ m → mostGo tab m ls = 0 → ∃ a ∈ ls, depthIn tab a = 0
  | [], m, h0, h => by simp only [mostGo] at h; omega
  | a :: ls, m, h0, h => by
    simp only [mostGo] at h
    split at h
    · rename_i e; exact ⟨a, by simp, e⟩
    · obtain ⟨b, hb, e⟩ := mostGo_zero (by omega) h
      exact ⟨b, by simp [hb], e⟩
theorem mostGo_pos {tab : List Int} (hp : ∀ a, 0 ≤ depthIn tab a) : ∀ {ls : List Ty} {m : Int}, 0 ≤ m → (∀ a ∈ ls, depthIn tab a ≠ 0) → m < mostGo tab m ls ∧ ∀ a ∈ ls, depthIn tab a < mostGo tab m ls
  | [], m, h0, _ => by simp only [mostGo]; exact ⟨by omega, fun a h => by cases h⟩
  | a :: ls, m, h0, h => by
    simp only [mostGo]
    rw [if_neg (h a (by simp))]
    have h1 := mostGo_pos hp (m := max m (depthIn tab a)) (ls := ls) (by omega) fun b hb => h b (by simp [hb])
    refine ⟨by omega, fun b hb => ?_⟩
    rcases List.mem_cons.1 hb with rfl | hb
    · omega
    · exact h1.2 b hb
theorem mostGo_ne {tab : List Int} : ∀ {ls : List Ty} {m : Int}, mostGo tab m ls ≠ 0 → ∀ a ∈ ls, depthIn tab a ≠ 0
  | [], _, _, a, h => by cases h
  | a :: ls, m, h, b, hb => by
    simp only [mostGo] at h
    split at h
    · exact absurd rfl h
    · rename_i e
      rcases List.mem_cons.1 hb with rfl | hb
      · exact e
      · exact mostGo_ne h b hb
theorem mostGo_le {tab : List Int} {N : Int} : ∀ {ls : List Ty} {m : Int}, m ≤ N → (∀ a ∈ ls, depthIn tab a ≠ 0 ∧ depthIn tab a ≤ N) → mostGo tab m ls ≤ N + 1
  | [], m, h0, _ => by simp only [mostGo]; omega
  | a :: ls, m, h0, h => by
    simp only [mostGo]
    rw [if_neg (h a (by simp)).1]
    exact mostGo_le (by have := (h a (by simp)).2; omega) fun b hb => h b (by simp [hb])

/-- a table that is right so far: every entry that is not 0 is the depth of some value -/
structure Sound (xs : List Dt) (tab : List Int) : Prop where
  pos : ∀ s, 0 ≤ tab.getD s 0
  has : ∀ s, s < xs.length * 4 → tab.getD s 0 ≠ 0 → hasD xs (tab.getD s 0).toNat (tyAt s)
  len : tab.length = xs.length * 4
theorem Sound.dpos {xs : List Dt} {tab : List Int} (h : Sound xs tab) (a : Ty) : 0 ≤ depthIn tab a := by
  unfold depthIn; split
  · omega
  · exact h.pos _
theorem Sound.dhas {xs : List Dt} {tab : List Int} (h : Sound xs tab) {a : Ty} (ha : TyIn xs.length a) (hn : depthIn tab a ≠ 0) : hasD xs (depthIn tab a).toNat a := by
  unfold depthIn at hn ⊢
  split
  · rename_i e; exact .inl e
  · rename_i e
    rw [if_neg e] at hn
    obtain ⟨h1, h2⟩ := ha.slot e
    have := h.has _ h1 hn
    rwa [h2] at this
theorem getD_set (tab : List Int) (s r : Nat) (n : Int) (hs : s < tab.length) : (tab.set s n).getD r 0 = if r = s then n else tab.getD r 0 := by
  unfold List.getD
  by_cases h : r = s
  · subst h; rw [if_pos rfl, List.getElem?_set_self hs]; rfl
  · rw [if_neg h, List.getElem?_set_ne (fun e => h e.symm)]
theorem better_iff {tab : List Int} {s : Nat} {n : Int} : better tab s n = true ↔ 0 < n ∧ (tab.getD s 0 = 0 ∨ n < tab.getD s 0) := by
  unfold better; simp
theorem Sound.put {xs : List Dt} (hw : WorldOK xs) {tab : List Int} (h : Sound xs tab) {s : Nat} (hs : s < xs.length * 4) {k : Int} (hk : k ∈ ctorsL xs (tyAt s)) : Sound xs (putIf tab s (mostIn xs tab (tyAt s) k)) := by
  unfold putIf
  split
  · rename_i hb
    obtain ⟨h1, h2⟩ := better_iff.1 hb
    have hs' : s < tab.length := by rw [h.len]; exact hs
    refine ⟨fun r => ?_, fun r hr hne => ?_, by rw [List.length_set]; exact h.len⟩
    · rw [getD_set _ _ _ _ hs']; split
      · omega
      · exact h.pos r
    · rw [getD_set _ _ _ _ hs'] at hne ⊢
      split at hne
      · rename_i e
        subst e
        rw [if_pos rfl]
        have hne2 : mostGo tab 0 (argsOf xs (tyAt r) k) ≠ 0 := by unfold mostIn at h1; omega
        have hd := mostGo_ne hne2
        have hp := mostGo_pos h.dpos (m := 0) (by omega) hd
        obtain ⟨n, hn⟩ : ∃ n : Nat, (mostIn xs tab (tyAt r) k).toNat = n + 1 := ⟨(mostIn xs tab (tyAt r) k).toNat - 1, by omega⟩
        rw [hn]
        refine .inr ⟨k, hk, fun a ha => ?_⟩
        have hai := argsOf_in hw (tyAt_in hr) hk ha
        refine hasD_le (h.dhas hai (hd a ha)) ?_
        have := hp.2 a ha
        unfold mostIn at hn
        omega
      · rename_i e
        rw [if_neg e]
        exact h.has r hr hne
  · exact h
theorem Sound.slot {xs : List Dt} (hw : WorldOK xs) {s : Nat} (hs : s < xs.length * 4) : ∀ {ks : List Int} {tab : List Int}, (∀ k ∈ ks, k ∈ ctorsL xs (tyAt s)) → Sound xs tab → Sound xs (slotGo xs s tab ks)
  | [], tab, _, h => h
  | k :: ks, tab, hk, h => by
    rw [slotGo_cons]
    exact Sound.slot hw hs (fun x hx => hk x (by simp [hx])) (h.put hw hs (hk k (by simp)))
theorem Sound.to {xs : List Dt} (hw : WorldOK xs) {tab : List Int} (h : Sound xs tab) : ∀ {s : Nat}, s ≤ xs.length * 4 → Sound xs (sweepTo xs tab s)
  | 0, _ => h
  | s + 1, hs => by rw [sweepTo_succ]; exact Sound.slot hw (by omega) (fun k hk => hk) (Sound.to hw h (by omega))
theorem sound_sweeps {xs : List Dt} (hw : WorldOK xs) : ∀ n, Sound xs (sweeps xs n)
  | 0 => ⟨fun s => by simp only [sweeps, List.getD]; rcases Nat.lt_or_ge s (xs.length * 4) with h | h <;> simp [h], fun s hs hn => by simp [sweeps, List.getD, hs] at hn, by simp [sweeps]⟩
  | n + 1 => (sound_sweeps hw n).to hw (Nat.le_refl _)

/-! ### Entries become no worse -/
def Le (t t' : List Int) : Prop := ∀ s, t.getD s 0 ≠ 0 → t'.getD s 0 ≠ 0 ∧ t'.getD s 0 ≤ t.getD s 0
theorem Le.refl (t : List Int) : Le t t := fun s h => ⟨h, Int.le_refl _⟩
theorem Le.trans {a b c : List Int} (h : Le a b) (k : Le b c) : Le a c := fun s hs => ⟨(k s (h s hs).1).1, Int.le_trans (k s (h s hs).1).2 (h s hs).2⟩
theorem le_put (tab : List Int) (s : Nat) (hs : s < tab.length) (n : Int) : Le tab (putIf tab s n) := by
  unfold putIf
  split
  · rename_i hb
    obtain ⟨h1, h2⟩ := better_iff.1 hb
    intro r hr
    rw [getD_set _ _ _ _ hs]
    split
    · rename_i e; subst e; exact ⟨by omega, by omega⟩
    · exact ⟨hr, Int.le_refl _⟩
  · exact Le.refl _
theorem le_slot (xs : List Dt) (s : Nat) : ∀ (ks : List Int) (tab : List Int), s < tab.length → Le tab (slotGo xs s tab ks)
  | [], tab, _ => Le.refl _
  | k :: ks, tab, hs => by
    rw [slotGo_cons]
    exact (le_put tab s hs _).trans (le_slot xs s ks _ (by rw [putIf_length]; exact hs))
theorem le_to (xs : List Dt) (tab : List Int) : ∀ (s : Nat), s ≤ tab.length → Le tab (sweepTo xs tab s)
  | 0, _ => Le.refl _
  | s + 1, hs => by rw [sweepTo_succ]; exact (le_to xs tab s (by omega)).trans (le_slot xs s _ _ (by rw [sweepTo_length]; omega))
theorem le_step (xs : List Dt) (tab : List Int) (r : Nat) : ∀ (s : Nat), r ≤ s → s ≤ tab.length → Le (sweepTo xs tab r) (sweepTo xs tab s) := by
  intro s hr
  induction hr with
  | refl => intro _; exact Le.refl _
  | step hr ih => intro hs; rw [sweepTo_succ]; exact (ih (by omega)).trans (le_slot xs _ _ _ (by rw [sweepTo_length]; omega))

/-- every type with a value of depth n at most has an entry of n at most -/
def Done (xs : List Dt) (tab : List Int) (n : Nat) : Prop := ∀ s, s < xs.length * 4 → hasD xs n (tyAt s) → tab.getD s 0 ≠ 0 ∧ tab.getD s 0 ≤ n
theorem Done.le {xs : List Dt} {t t' : List Int} {n : Nat} (h : Done xs t n) (hl : Le t t') : Done xs t' n := fun s hs hh => ⟨(hl s (h s hs hh).1).1, Int.le_trans (hl s (h s hs hh).1).2 (h s hs hh).2⟩
theorem put_done {tab : List Int} {s : Nat} (hs : s < tab.length) (hp : 0 ≤ tab.getD s 0) {n : Int} (h0 : 0 < n) : (putIf tab s n).getD s 0 ≠ 0 ∧ (putIf tab s n).getD s 0 ≤ n := by
  unfold putIf
  split
  · rename_i hb
    rw [getD_set _ _ _ _ hs, if_pos rfl]; omega
  · rename_i hb
    have : ¬ (0 < n ∧ (tab.getD s 0 = 0 ∨ n < tab.getD s 0)) := fun h => hb (better_iff.2 h)
    omega
theorem slot_done {xs : List Dt} (hw : WorldOK xs) {n s : Nat} (hs : s < xs.length * 4) {k0 : Int} (ha : ∀ a ∈ argsOf xs (tyAt s) k0, hasD xs n a) : ∀ {ks : List Int} {tab : List Int}, (∀ k ∈ ks, k ∈ ctorsL xs (tyAt s)) → k0 ∈ ks → Sound xs tab → Done xs tab n → (slotGo xs s tab ks).getD s 0 ≠ 0 ∧ (slotGo xs s tab ks).getD s 0 ≤ n + 1
  | [], tab, _, h, _, _ => by cases h
  | k :: ks, tab, hks, hk, hsd, hd => by
    have hsl : s < tab.length := by rw [hsd.len]; exact hs
    rw [slotGo_cons]
    by_cases e : k0 = k
    · subst e
      have hk0 := hks k0 (by simp)
      have hall : ∀ a ∈ argsOf xs (tyAt s) k0, depthIn tab a ≠ 0 ∧ depthIn tab a ≤ n := fun a hm => by
        have hai := argsOf_in hw (tyAt_in hs) hk0 hm
        unfold depthIn
        split
        · have := ha a hm
          cases n with
          | zero => exact this.elim
          | succ n => omega
        · rename_i hne
          obtain ⟨q1, q2⟩ := hai.slot hne
          exact hd _ q1 (by rw [q2]; exact ha a hm)
      have h1 := mostGo_pos hsd.dpos (m := 0) (by omega) fun a hm => (hall a hm).1
      have h2 := mostGo_le (N := n) (m := 0) (by omega) hall
      have h3 := put_done hsl (hsd.pos s) (n := mostIn xs tab (tyAt s) k0) h1.1
      have h4 := le_slot xs s ks (putIf tab s (mostIn xs tab (tyAt s) k0)) (by rw [putIf_length]; exact hsl) s h3.1
      have h5 : mostIn xs tab (tyAt s) k0 ≤ n + 1 := h2
      exact ⟨h4.1, by omega⟩
    · have hk' : k0 ∈ ks := by
        rcases List.mem_cons.1 hk with h | h
        · exact absurd h e
        · exact h
      exact slot_done hw hs ha (fun x hx => hks x (by simp [hx])) hk' (hsd.put hw hs (hks k (by simp))) (hd.le (le_put tab s hsl _))
theorem sweep_done {xs : List Dt} (hw : WorldOK xs) {tab : List Int} {n : Nat} (hsd : Sound xs tab) (hd : Done xs tab n) : Done xs (sweep xs tab) (n + 1) := by
  intro s hs hh
  rcases hh with h | ⟨k, hk, ha⟩
  · exact absurd h (tyAt_not s)
  · have h1 := slot_done hw hs ha (fun k hk => hk) hk (hsd.to hw (by omega : s ≤ xs.length * 4)) (hd.le (le_to xs tab s (by rw [hsd.len]; omega)))
    rw [← sweepTo_succ] at h1
    have h2 := le_step xs tab (s + 1) (xs.length * 4) (by omega) (by rw [hsd.len]; omega) s h1.1
    exact ⟨h2.1, by show (sweepTo xs tab (xs.length * 4)).getD s 0 ≤ _; omega⟩
theorem done_sweeps {xs : List Dt} (hw : WorldOK xs) : ∀ n, Done xs (sweeps xs n) n
  | 0 => fun s _ h => h.elim
  | n + 1 => sweep_done hw (sound_sweeps hw n) (done_sweeps hw n)
theorem le_sweeps {xs : List Dt} (n : Nat) : Le (sweeps xs n) (sweeps xs (n + 1)) := le_to xs _ _ (by rw [sweeps_length]; exact Nat.le_refl _)
theorem le_sweeps' {xs : List Dt} {n m : Nat} (h : n ≤ m) : Le (sweeps xs n) (sweeps xs m) := by
  induction h with
  | refl => exact Le.refl _
  | step _ ih => exact ih.trans (le_sweeps _)
end Go.Proofs.Ytbffkgfhcmigaaa

namespace Go.Proofs.Ytbffkgfhcmigaaa
open Go.RowKit
open Classical

/-- from level n on no further type gets a value -/
def Stable (xs : List Dt) (n : Nat) : Prop := ∀ s, s < xs.length * 4 → hasD xs (n + 1) (tyAt s) → hasD xs n (tyAt s)
theorem stable_step {xs : List Dt} (hw : WorldOK xs) {n : Nat} (hn : 1 ≤ n) (h : Stable xs n) : Stable xs (n + 1) := by
  intro s hs hh
  rcases hh with hh | ⟨k, hk, ha⟩
  · exact .inl hh
  · refine .inr ⟨k, hk, fun a hm => ?_⟩
    have hai := argsOf_in hw (tyAt_in hs) hk hm
    by_cases e : a.d = -1
    · obtain ⟨m, rfl⟩ : ∃ m, n = m + 1 := ⟨n - 1, by omega⟩
      exact .inl e
    · obtain ⟨q1, q2⟩ := hai.slot e
      have := h _ q1 (by rw [q2]; exact ha a hm)
      rwa [q2] at this
noncomputable def lvl (xs : List Dt) (n : Nat) : Nat := ((List.range (xs.length * 4)).filter fun s => decide (hasD xs n (tyAt s))).length
theorem filter_lt {p q : Nat → Bool} : ∀ (l : List Nat), (∀ x ∈ l, p x = true → q x = true) → (∃ x ∈ l, q x = true ∧ p x = false) → (l.filter p).length < (l.filter q).length
  | [], _, h => by obtain ⟨x, hx, -⟩ := h; cases hx
  | y :: l, h, ⟨x, hx, h1, h2⟩ => by
    have hle : ∀ l : List Nat, (∀ x ∈ l, p x = true → q x = true) → (l.filter p).length ≤ (l.filter q).length := by
      intro l
      induction l with
      | nil => intro _; exact Nat.le_refl _
      | cons z l ih =>
        intro hl
        have := ih fun x hx => hl x (by simp [hx])
        have hz := hl z (by simp)
        cases hp : p z with
        | true => rw [List.filter_cons_of_pos hp, List.filter_cons_of_pos (hz hp)]; simp only [List.length_cons]; omega
        | false =>
          rw [List.filter_cons_of_neg (by simp [hp])]
          cases hq : q z with
          | true => rw [List.filter_cons_of_pos hq]; simp only [List.length_cons]; omega
          | false => rw [List.filter_cons_of_neg (by simp [hq])]; exact this
    have hrest := hle l fun x hx => h x (by simp [hx])
    rcases List.mem_cons.1 hx with rfl | hx
    · rw [List.filter_cons_of_neg (by simp [h2]), List.filter_cons_of_pos h1]; simp only [List.length_cons]; omega
    · have ih := filter_lt l (fun x hx => h x (by simp [hx])) ⟨x, hx, h1, h2⟩
      have hy := h y (by simp)
      cases hp : p y with
      | true => rw [List.filter_cons_of_pos hp, List.filter_cons_of_pos (hy hp)]; simp only [List.length_cons]; omega
      | false =>
        rw [List.filter_cons_of_neg (by simp [hp])]
        cases hq : q y with
        | true => rw [List.filter_cons_of_pos hq]; simp only [List.length_cons]; omega
        | false => rw [List.filter_cons_of_neg (by simp [hq])]; exact ih
theorem lvl_lt {xs : List Dt} {n : Nat} (h : ¬ Stable xs n) : lvl xs n < lvl xs (n + 1) := by
  unfold Stable at h
  obtain ⟨s, h⟩ := Classical.not_forall.1 h
  obtain ⟨hs, h⟩ := Classical.not_imp.1 h
  obtain ⟨h1, h2⟩ := Classical.not_imp.1 h
  unfold lvl
  refine filter_lt _ (fun x _ hx => ?_) ⟨s, List.mem_range.2 hs, by simp [h1], by simp [h2]⟩
  simp only [decide_eq_true_eq] at hx ⊢
  exact hasD_mono hx
theorem lvl_le (xs : List Dt) (n : Nat) : lvl xs n ≤ xs.length * 4 := by
  unfold lvl
  exact Nat.le_trans (List.length_filter_le _ _) (by simp)
theorem stable_ex {xs : List Dt} : ∀ n, (∃ m, 1 ≤ m ∧ m ≤ n ∧ Stable xs m) ∨ n ≤ lvl xs (n + 1)
  | 0 => .inr (Nat.zero_le _)
  | n + 1 => by
    rcases stable_ex (xs := xs) n with ⟨m, h1, h2, h3⟩ | h
    · exact .inl ⟨m, h1, by omega, h3⟩
    · by_cases hs : Stable xs (n + 1)
      · exact .inl ⟨n + 1, by omega, Nat.le_refl _, hs⟩
      · have := lvl_lt hs
        exact .inr (by omega)
theorem stable_max {xs : List Dt} (hw : WorldOK xs) : Stable xs (xs.length * 4 + 1) := by
  rcases stable_ex (xs := xs) (xs.length * 4 + 1) with ⟨m, h1, h2, h3⟩ | h
  · have key : ∀ k, m ≤ k → Stable xs k := by
      intro k hk
      induction hk with
      | refl => exact h3
      | step hk ih => exact stable_step hw (Nat.le_trans h1 hk) ih
    exact key _ h2
  · have := lvl_le xs (xs.length * 4 + 1 + 1)
    omega
theorem hasD_max {xs : List Dt} (hw : WorldOK xs) {s : Nat} (hs : s < xs.length * 4) : ∀ {n : Nat}, hasD xs n (tyAt s) → hasD xs (xs.length * 4 + 1) (tyAt s) := by
  have hst : ∀ k, Stable xs (xs.length * 4 + 1 + k) := by
    intro k
    induction k with
    | zero => exact stable_max hw
    | succ k ih => exact stable_step hw (n := xs.length * 4 + 1 + k) (by omega) ih
  have down : ∀ k, hasD xs (xs.length * 4 + 1 + k) (tyAt s) → hasD xs (xs.length * 4 + 1) (tyAt s) := by
    intro k
    induction k with
    | zero => exact id
    | succ k ih => exact fun h => ih (hst k s hs h)
  intro n h
  exact down n (hasD_le h (by omega))

theorem list_ext {a b : List Int} (hl : a.length = b.length) (h : ∀ s, s < a.length → a.getD s 0 = b.getD s 0) : a = b := by
  refine List.ext_getElem hl fun s h1 h2 => ?_
  have := h s h1
  simpa [List.getD, List.getElem?_eq_getElem h1, List.getElem?_eq_getElem h2] using this
theorem tableL_fix {xs : List Dt} (hw : WorldOK xs) : sweep xs (tableL xs) = tableL xs := by
  refine list_ext (by show (sweeps xs (_ + 1)).length = (sweeps xs _).length; rw [sweeps_length, sweeps_length]) fun s hs => ?_
  have hs : s < xs.length * 4 := Nat.lt_of_lt_of_eq hs (sweeps_length xs (xs.length * 4 + 1 + 1))
  show (sweeps xs (xs.length * 4 + 1 + 1)).getD s 0 = (sweeps xs (xs.length * 4 + 1)).getD s 0
  have s1 := sound_sweeps hw (xs.length * 4 + 1)
  have s2 := sound_sweeps hw (xs.length * 4 + 1 + 1)
  have d1 := done_sweeps hw (xs.length * 4 + 1) s hs
  by_cases h0 : (sweeps xs (xs.length * 4 + 1)).getD s 0 = 0
  · by_cases h1 : (sweeps xs (xs.length * 4 + 1 + 1)).getD s 0 = 0
    · rw [h0, h1]
    · exact absurd h0 (d1 (hasD_max hw hs (s2.has s hs h1))).1
  · have l := le_sweeps (xs := xs) (xs.length * 4 + 1) s h0
    have hv := s2.has s hs l.1
    have hb := (d1 (hasD_max hw hs (s1.has s hs h0))).2
    have hp := s2.pos s
    have hd := done_sweeps hw _ s hs hv
    have hl := le_sweeps' (xs := xs) (n := ((sweeps xs (xs.length * 4 + 1 + 1)).getD s 0).toNat) (m := xs.length * 4 + 1) (by omega) s hd.1
    omega
theorem sweeps_from {xs : List Dt} {m : Nat} (h : sweep xs (sweeps xs m) = sweeps xs m) : ∀ k, sweeps xs (m + k) = sweeps xs m
  | 0 => rfl
  | k + 1 => by show sweep xs (sweeps xs (m + k)) = _; rw [sweeps_from h k, h]
/-- a fixed point that is reached is the table -/
theorem fix_table {xs : List Dt} (hw : WorldOK xs) {m : Nat} (h : sweep xs (sweeps xs m) = sweeps xs m) : sweeps xs m = tableL xs := by
  rcases Nat.le_total m (xs.length * 4 + 1) with hm | hm
  · obtain ⟨k, hk⟩ := Nat.exists_eq_add_of_le hm
    have := sweeps_from h k
    rw [← hk] at this
    exact this.symm
  · obtain ⟨k, hk⟩ := Nat.exists_eq_add_of_le hm
    rw [hk]
    exact sweeps_from (tableL_fix hw) k
theorem moved_le {xs : List Dt} (hw : WorldOK xs) {m : Nat} (h : sweep xs (sweeps xs m) ≠ sweeps xs m) : m ≤ xs.length * 4 := by
  rcases Nat.lt_or_ge (xs.length * 4) m with hm | hm
  · obtain ⟨k, hk⟩ := Nat.exists_eq_add_of_le (show xs.length * 4 + 1 ≤ m by omega)
    refine absurd ?_ h
    have e : sweeps xs m = tableL xs := by rw [hk]; exact sweeps_from (tableL_fix hw) k
    rw [e]; exact tableL_fix hw
  · exact hm

/-- a table differs from the one that a sweep began with -/
def movedB (t cur : List Int) : Bool := !(cur == t)
theorem movedB_refl (t : List Int) : movedB t t = false := by unfold movedB; simp
theorem movedB_put {t cur : List Int} (h : Le t cur) {s : Nat} (hs : s < cur.length) {n : Int} (hb : better cur s n = true) (hp : 0 ≤ cur.getD s 0) : movedB t (putIf cur s n) = true := by
  have hne : putIf cur s n ≠ t := fun e => by
    obtain ⟨h1, h2⟩ := better_iff.1 hb
    have hv : (putIf cur s n).getD s 0 = n := by
      unfold putIf
      rw [if_pos hb, getD_set _ _ _ _ hs, if_pos rfl]
    rw [e] at hv
    by_cases h0 : t.getD s 0 = 0
    · omega
    · have := h s h0
      omega
  unfold movedB
  simp [hne]
theorem movedB_not {cur : List Int} {s : Nat} {n : Int} (hb : better cur s n = false) : putIf cur s n = cur := by unfold putIf; rw [if_neg (by simp [hb])]
theorem putIf_yes {cur : List Int} {s : Nat} {n : Int} (hb : better cur s n = true) : putIf cur s n = cur.set s n := if_pos hb
theorem movedB_iff {t cur : List Int} : movedB t cur = false ↔ cur = t := by unfold movedB; simp
/-- what LeastDepth gives -/
def depthL (xs : List Dt) (t : Ty) : Int := if typeValidB xs t = true then depthIn (tableL xs) t else 0
end Go.Proofs.Ytbffkgfhcmigaaa

namespace Go.Proofs.Ytbffkgfhcmigaaa
open Go.RowKit

theorem fitTo_mem {cs : List Kt} {i : Int} {m k : Nat} (hm : m ≤ cs.length) : (k : Int) ∈ fitTo cs i m ↔ ∃ h : k < m, fitsB (cs[k]'(by omega)) i = true := by
  unfold fitTo
  rw [List.mem_map]
  constructor
  · rintro ⟨j, hj, e⟩
    have e : j = k := Int.ofNat.inj e
    subst e
    obtain ⟨h1, h2⟩ := List.mem_filter.1 hj
    have hjm : j < m := by simpa using h1
    refine ⟨hjm, ?_⟩
    unfold fitAt at h2
    rw [List.getElem?_eq_getElem (by omega)] at h2
    exact h2
  · rintro ⟨h, hf⟩
    refine ⟨k, List.mem_filter.2 ⟨by simpa using h, ?_⟩, rfl⟩
    unfold fitAt
    rw [List.getElem?_eq_getElem (by omega)]
    exact hf
theorem hasB_ctors {xs : List Dt} {d k : Nat} {i : Int} (hd : d < xs.length) (hk : k < xs[d].ctors.length) : hasB (ctorsL xs ⟨(d : Int), i⟩) (k : Int) = fitsB xs[d].ctors[k] i := by
  rw [Bool.eq_iff_iff, hasB_iff, ctorsL_data hd, fitTo_mem (Nat.le_refl _)]
  exact ⟨fun ⟨_, h⟩ => h, fun h => ⟨hk, h⟩⟩
/-- constructors with an index are among those with any -/
theorem ctorsL_any {xs : List Dt} {t : Ty} {n : Int} (ht : InWorld xs.length t) (h : n ∈ ctorsL xs t) : n ∈ ctorsL xs ⟨t.d, 0⟩ := by
  obtain ⟨d, k, h1, rfl, hd, hk⟩ := mem_ctorsL ht h
  obtain ⟨t1, t2⟩ := t
  simp only at h1
  subst h1
  rw [ctorsL_data hd, fitTo_mem (Nat.le_refl _)]
  refine ⟨hk, ?_⟩
  unfold fitsB
  simp
theorem fitTo_lt (cs : List Kt) (i : Int) : ∀ n, ∀ x ∈ fitTo cs i n, x < (n : Int) := by
  intro n x hx
  obtain ⟨k, rfl, hk⟩ := mem_fitTo hx
  omega
/-- they ascend -/
theorem fitTo_sorted (cs : List Kt) (i : Int) (n : Nat) (hn : n ≤ cs.length) : ∀ a (ha : a + 1 < (fitTo cs i n).length), (fitTo cs i n)[a] < (fitTo cs i n)[a + 1] := by
  induction n with
  | zero => intro a ha; simp [fitTo] at ha
  | succ n ih =>
    intro a ha
    have hs := fitTo_succ cs i n (by omega)
    cases hf : fitsB cs[n] i with
    | false =>
      rw [hf] at hs
      simp only [Bool.false_eq_true, if_false] at hs
      simp only [hs] at ha ⊢
      exact ih (by omega) a ha
    | true =>
      rw [hf] at hs
      simp only [if_true] at hs
      simp only [hs] at ha ⊢
      rw [List.length_append, List.length_singleton] at ha
      rcases Nat.lt_or_ge (a + 1) (fitTo cs i n).length with h | h
      · rw [List.getElem_append_left (by omega), List.getElem_append_left h]
        exact ih (by omega) a h
      · rw [List.getElem_append_left (by omega), List.getElem_append_right (by omega)]
        have := fitTo_lt cs i n _ (List.getElem_mem (show a < (fitTo cs i n).length by omega))
        simp only [show a + 1 - (fitTo cs i n).length = 0 by omega, List.getElem_cons_zero]
        omega
theorem ctorsL_sorted {xs : List Dt} {t : Ty} (ht : InWorld xs.length t) : ∀ a (ha : a + 1 < (ctorsL xs t).length), (ctorsL xs t)[a] < (ctorsL xs t)[a + 1] := by
  rcases ht with hd | ⟨d, hd, hdl⟩
  · intro a ha
    have := ctorsL_int (xs := xs) hd
    simp only [this] at ha
    simp at ha
  · obtain ⟨t1, t2⟩ := t
    simp only at hd
    subst hd
    have e := ctorsL_data (i := t2) hdl
    intro a ha
    simp only [e] at ha ⊢
    exact fitTo_sorted _ _ _ (Nat.le_refl _) a ha
end Go.Proofs.Ytbffkgfhcmigaaa

namespace Go.Proofs.Ytbffkgfhcmigaaa
open Go.RowKit

theorem tableL_done {xs : List Dt} (hw : WorldOK xs) (n : Nat) : Done xs (tableL xs) n := fun s hs h => by
  rcases Nat.le_total n (xs.length * 4 + 1) with hn | hn
  · exact (done_sweeps hw n).le (le_sweeps' hn) s hs h
  · have := done_sweeps hw (xs.length * 4 + 1) s hs (hasD_max hw hs h)
    exact ⟨this.1, by have h2 := this.2; show (sweeps xs (xs.length * 4 + 1)).getD s 0 ≤ (n : Int); omega⟩
theorem depthIn_done {xs : List Dt} (hw : WorldOK xs) {a : Ty} (ha : TyIn xs.length a) {n : Nat} (h : hasD xs n a) : depthIn (tableL xs) a ≠ 0 ∧ depthIn (tableL xs) a ≤ n := by
  have hn : 1 ≤ n := by
    cases n with
    | zero => exact h.elim
    | succ n => omega
  by_cases e : a.d = -1
  · unfold depthIn
    rw [if_pos e]
    omega
  · obtain ⟨h1, h2⟩ := ha.slot e
    have := tableL_done hw n (slotOf a) h1 (by rw [h2]; exact h)
    unfold depthIn
    rw [if_neg e]
    exact this
theorem sound_tableL {xs : List Dt} (hw : WorldOK xs) : Sound xs (tableL xs) := sound_sweeps hw _
theorem mostIn_nonneg {xs : List Dt} (hw : WorldOK xs) (t : Ty) (k : Int) : 0 ≤ mostIn xs (tableL xs) t k := by
  have key : ∀ (ls : List Ty) (m : Int), 0 ≤ m → 0 ≤ mostGo (tableL xs) m ls := by
    intro ls
    induction ls with
    | nil => intro m h; simp only [mostGo]; omega
    | cons a ls ih =>
      intro m h
      simp only [mostGo]
      split
      · omega
      · exact ih _ (by omega)
  exact key _ _ (Int.le_refl _)
theorem least_le {xs : List Dt} (hw : WorldOK xs) {t : Ty} (ht : TyIn xs.length t) {k : Int} (hk : k ∈ ctorsL xs t) (hm : mostIn xs (tableL xs) t k ≠ 0) : depthIn (tableL xs) t ≠ 0 ∧ depthIn (tableL xs) t ≤ mostIn xs (tableL xs) t k := by
  have hs := sound_tableL hw
  have hne := mostGo_ne hm
  have hp := mostGo_pos hs.dpos (Int.le_refl 0) hne
  have h0 : 0 < mostIn xs (tableL xs) t k := hp.1
  have := depthIn_done hw ht (n := (mostIn xs (tableL xs) t k - 1).toNat + 1) (.inr ⟨k, hk, fun a ha => by
    refine hasD_le (hs.dhas (argsOf_in hw ht hk ha) (hne a ha)) ?_
    have := hp.2 a ha
    have h2 : mostGo (tableL xs) 0 (argsOf xs t k) = mostIn xs (tableL xs) t k := rfl
    omega⟩)
  exact ⟨this.1, by have h2 := this.2; omega⟩
theorem least_ex {xs : List Dt} (hw : WorldOK xs) {t : Ty} (ht : TyIn xs.length t) (hd : ¬ t.d = -1) (h : depthIn (tableL xs) t ≠ 0) : ∃ k ∈ ctorsL xs t, mostIn xs (tableL xs) t k ≠ 0 ∧ mostIn xs (tableL xs) t k ≤ depthIn (tableL xs) t := by
  have hs := sound_tableL hw
  have h0 := hs.dpos t
  have hh := hs.dhas ht h
  obtain ⟨m, hm⟩ : ∃ m, (depthIn (tableL xs) t).toNat = m + 1 := ⟨(depthIn (tableL xs) t).toNat - 1, by omega⟩
  rw [hm] at hh
  rcases hh with hh | ⟨k, hk, ha⟩
  · exact absurd hh hd
  · have hall : ∀ a ∈ argsOf xs t k, depthIn (tableL xs) a ≠ 0 ∧ depthIn (tableL xs) a ≤ (m : Int) := fun a hm => depthIn_done hw (argsOf_in hw ht hk hm) (ha a hm)
    have h1 : mostIn xs (tableL xs) t k ≤ (m : Int) + 1 := mostGo_le (by omega) hall
    have h2 : 0 < mostIn xs (tableL xs) t k := (mostGo_pos hs.dpos (Int.le_refl 0) fun a ha => (hall a ha).1).1
    exact ⟨k, hk, by omega, by omega⟩

/-! ### The least of some numbers, where 0 stands for none -/
def bestOf (b m : Int) : Int := if m ≠ 0 ∧ (b = 0 ∨ m < b) then m else b
def bestTo (ms : List Int) : Int := ms.foldl bestOf 0
theorem bestTo_snoc (ms : List Int) (m : Int) : bestTo (ms ++ [m]) = bestOf (bestTo ms) m := by unfold bestTo; rw [List.foldl_append]; rfl
theorem bestTo_spec : ∀ (ms : List Int), (∀ m ∈ ms, 0 ≤ m) → ((bestTo ms = 0 ∧ ∀ m ∈ ms, m = 0) ∨ (bestTo ms ∈ ms ∧ 0 < bestTo ms ∧ ∀ m ∈ ms, m ≠ 0 → bestTo ms ≤ m)) := by
  have key : ∀ (r ms : List Int), ms = r.reverse → (∀ m ∈ ms, 0 ≤ m) → ((bestTo ms = 0 ∧ ∀ m ∈ ms, m = 0) ∨ (bestTo ms ∈ ms ∧ 0 < bestTo ms ∧ ∀ m ∈ ms, m ≠ 0 → bestTo ms ≤ m)) := by
    intro r
    induction r with
    | nil => intro ms e _; subst e; exact .inl ⟨rfl, fun m hm => by cases hm⟩
    | cons x r ih =>
      intro ms e hp
      rw [List.reverse_cons] at e
      subst e
      have hpx := hp x (by simp)
      have ih := ih _ rfl fun m hm => hp m (by simp at hm ⊢; simp [hm])
      rw [bestTo_snoc]
      unfold bestOf
      rcases ih with ⟨h1, h2⟩ | ⟨h1, h2, h3⟩
      · by_cases hx : x = 0
        · left
          rw [if_neg (by omega)]
          exact ⟨h1, fun m hm => by
            rcases List.mem_append.1 hm with h | h
            · exact h2 m h
            · rw [List.mem_singleton] at h; omega⟩
        · right
          rw [if_pos ⟨hx, .inl h1⟩]
          exact ⟨by simp, by omega, fun m hm hm0 => by
            rcases List.mem_append.1 hm with h | h
            · exact absurd (h2 m h) hm0
            · rw [List.mem_singleton] at h; omega⟩
      · right
        split
        · rename_i hc
          exact ⟨by simp, by omega, fun m hm hm0 => by
            rcases List.mem_append.1 hm with h | h
            · have := h3 m h hm0; omega
            · rw [List.mem_singleton] at h; omega⟩
        · rename_i hc
          exact ⟨List.mem_append.2 (.inl h1), h2, fun m hm hm0 => by
            rcases List.mem_append.1 hm with h | h
            · exact h3 m h hm0
            · rw [List.mem_singleton] at h; subst h; omega⟩
  intro ms hp
  exact key ms.reverse ms (by simp) hp
theorem best_least {xs : List Dt} (hw : WorldOK xs) {t : Ty} (ht : TyIn xs.length t) (hd : ¬ t.d = -1) : bestTo ((ctorsL xs t).map (mostIn xs (tableL xs) t)) = depthIn (tableL xs) t := by
  have hp : ∀ m ∈ (ctorsL xs t).map (mostIn xs (tableL xs) t), 0 ≤ m := fun m hm => by
    obtain ⟨k, -, rfl⟩ := List.mem_map.1 hm
    exact mostIn_nonneg hw t k
  have h0 := (sound_tableL hw).dpos t
  rcases bestTo_spec _ hp with ⟨h1, h2⟩ | ⟨h1, h2, h3⟩
  · rw [h1]
    by_cases e : depthIn (tableL xs) t = 0
    · exact e.symm
    · obtain ⟨k, hk, hk0, -⟩ := least_ex hw ht hd e
      exact absurd (h2 _ (List.mem_map.2 ⟨k, hk, rfl⟩)) hk0
  · obtain ⟨k, hk, e⟩ := List.mem_map.1 h1
    have l1 := least_le hw ht hk (by omega)
    obtain ⟨k2, hk2, hk20, hk2l⟩ := least_ex hw ht hd l1.1
    have := h3 _ (List.mem_map.2 ⟨k2, hk2, rfl⟩) hk20
    omega

/-! ### Any index is no deeper -/
theorem hasD_wide {xs : List Dt} (hw : WorldOK xs) : ∀ (n : Nat) (t : Ty), TyIn xs.length t → hasD xs n t → hasD xs n ⟨t.d, 0⟩
  | 0, _, _, h => h
  | n + 1, t, ht, h => by
    rcases h with h | ⟨k, hk, ha⟩
    · exact .inl h
    · refine .inr ⟨k, ctorsL_any ht.inWorld hk, fun a hm => ?_⟩
      obtain ⟨d, m, h1, rfl, hd, hml⟩ := mem_ctorsL ht.inWorld hk
      have hin := fun a ha => argsOf_in hw ht hk (a := a) ha
      obtain ⟨t1, t2⟩ := t
      simp only at h1
      subst h1
      rw [argsOf_get hd hml] at hm
      rw [argsOf_get hd hml] at ha hin
      unfold argsL at hm ha hin
      obtain ⟨b, hb, rfl⟩ := List.mem_map.1 hm
      have hb2 := ha _ (List.mem_map.2 ⟨b, hb, rfl⟩)
      have hb3 := hin _ (List.mem_map.2 ⟨b, hb, rfl⟩)
      cases q : (b.i == -1) with
      | false =>
        rw [argTy_no q] at hb2 ⊢
        exact hb2
      | true =>
        rw [argTy_yes q] at hb2 hb3 ⊢
        unfold resIdx at hb2 hb3 ⊢
        split
        · rename_i hz
          rw [if_pos hz] at hb2 hb3
          exact hasD_wide hw n ⟨b.d, t2⟩ hb3 hb2
        · rename_i hz
          rw [if_neg hz] at hb2
          exact hb2
theorem depth_wide {xs : List Dt} (hw : WorldOK xs) {t : Ty} (ht : TyIn xs.length t) (h : depthIn (tableL xs) t ≠ 0) : depthIn (tableL xs) ⟨t.d, 0⟩ ≠ 0 ∧ depthIn (tableL xs) ⟨t.d, 0⟩ ≤ depthIn (tableL xs) t := by
  have hs := sound_tableL hw
  have ht0 : TyIn xs.length ⟨t.d, 0⟩ := by
    rcases ht with h | ⟨d, i, rfl, h1, h2⟩
    · exact .inl h
    · exact .inr ⟨d, 0, rfl, h1, by omega⟩
  have := depthIn_done hw ht0 (hasD_wide hw _ _ ht (hs.dhas ht h))
  have h0 := hs.dpos t
  exact ⟨this.1, by have h2 := this.2; omega⟩
end Go.Proofs.Ytbffkgfhcmigaaa

namespace Go.Proofs.Ytbffkgfhcmigaaa
open Go.RowKit

theorem ArrP.drew' {w : World} {vs : List P} {x : Value} {F : List Nat} (h : Arr w (PR w) vs x F) : Arr w.drew (PR w.drew) vs x F := ArrP.mono (w := w) h (fun _ _ => rfl)
theorem ArrP.at {w0 w : World} {b off n cap : Nat} {F : List Nat} {xs : List P} (h : Arr w0 (PR w0) xs (.slice (some ⟨b, off, none⟩) n cap) F) (hF : Under w0.heap.size F) (hB : Below w0.heap.size w0 w) (i : Nat) (hi : i < xs.length) :
    ∃ A1 cap1 G, b < w.heap.size ∧ w.cell? ⟨b, off + i * 6, none⟩ = some (.int .i64 xs[i].op) ∧ w.cell? ⟨b, off + i * 6 + 1, none⟩ = some (.int .i64 xs[i].ct) ∧ w.cell? ⟨b, off + i * 6 + 2, none⟩ = some (.int .i64 xs[i].n) ∧ w.cell? ⟨b, off + i * 6 + 3, none⟩ = some (.int .i64 xs[i].m) ∧ w.cell? ⟨b, off + i * 6 + 4, none⟩ = some (.int .i64 xs[i].va) ∧ w.cell? ⟨b, off + i * 6 + 5, none⟩ = some (.slice A1 xs[i].ks.length cap1) ∧
      Hid (PR w0 xs[i] [.int .i64 xs[i].op, .int .i64 xs[i].ct, .int .i64 xs[i].n, .int .i64 xs[i].m, .int .i64 xs[i].va, .slice A1 xs[i].ks.length cap1] G) ∧ Hid (Under w0.heap.size G) ∧ (∀ b ∈ G, b ∈ F) ∧ xs[i].ks.length ≤ cap1 ∧ cap1 ≤ 9223372036854775807 := by
  obtain ⟨b', off', cs, G, e, hb, hcs, hv, hG⟩ := h.get PR_len hi
  cases e
  have hbl := hF _ hb
  have hc := hcs.same (hB.block _ hbl)
  obtain ⟨kv, rfl, ha⟩ := (PR_iff _ _ _).1 hv
  obtain ⟨A1, cap1, rfl, h1, h2⟩ := ha.form
  exact ⟨A1, cap1, G, Nat.lt_of_lt_of_le hbl hB.size, hc 0 _ rfl, hc 1 _ rfl, hc 2 _ rfl, hc 3 _ rfl, hc 4 _ rfl, hc 5 _ rfl, hv, hF.sub hG, hG, h1, h2⟩
theorem nodesP_ks (p : P) : nodesP p = 1 + P.sizes p.ks := by obtain ⟨op, ct, n, m, va, ks⟩ := p; unfold nodesP; rw [P.size]; simp only; omega
theorem sizesP_step {l : List P} {i : Nat} (h : i < l.length) : P.sizes (l.take (i + 1)) = P.sizes (l.take i) + nodesP l[i] := by
  rw [P.sizes_eq, P.sizes_eq, P.subs_take_succ l i h, List.length_take, List.length_take]
  unfold nodesP
  omega
theorem sizesP_take_le (l : List P) (i : Nat) : P.sizes (l.take i) ≤ P.sizes l := by
  rw [P.sizes_eq, P.sizes_eq, List.length_take]
  have := P.subs_take_le l i
  omega
theorem nodesP_mem {l : List P} {i : Nat} (h : i < l.length) : nodesP l[i] ≤ P.sizes l := by
  have h1 := sizesP_step h
  have h2 := sizesP_take_le l (i + 1)
  omega
theorem P.indv {q : P → Prop} (h : ∀ v : P, (∀ k ∈ v.ks, q k) → q v) : ∀ v, q v := P.ind fun op ct n m va ks ih => h ⟨op, ct, n, m, va, ks⟩ ih
end Go.Proofs.Ytbffkgfhcmigaaa

namespace Go.Proofs.Ytbffkgfhcmigaaa
open Go.RowKit

structure V where
  c : Int
  n : Int
  ks : List V

theorem V.ind {p : V → Prop} (h : ∀ c n ks, (∀ k ∈ ks, p k) → p ⟨c, n, ks⟩) : ∀ v, p v
  | ⟨c, n, ks⟩ => h c n ks fun k hk => V.ind h k
termination_by v => SizeOf.sizeOf v
decreasing_by
  have := List.sizeOf_lt_of_mem hk
  simp
  omega

mutual
def V.size : V → Nat
  | ⟨_, _, ks⟩ => V.sizes ks
def V.sizes : List V → Nat
  | [] => 0
  | k :: ks => 1 + V.size k + V.sizes ks
end

def V.subs : List V → Nat
  | [] => 0
  | k :: ks => k.size + V.subs ks
theorem V.subs_snoc (l : List V) (x : V) : V.subs (l ++ [x]) = V.subs l + x.size := by
  induction l with
  | nil => simp [V.subs]
  | cons k l ih => simp only [List.cons_append, V.subs, ih]; omega
theorem V.sizes_eq (l : List V) : V.sizes l = l.length + V.subs l := by
  induction l with
  | nil => rfl
  | cons k l ih => simp only [V.sizes, V.subs, List.length_cons, ih]; omega
theorem V.subs_take_le (l : List V) (k : Nat) : V.subs (l.take k) ≤ V.subs l := by
  induction l generalizing k with
  | nil => simp [V.subs]
  | cons x l ih =>
    cases k with
    | zero => simp [V.subs]
    | succ k => simp only [List.take_succ_cons, V.subs]; have := ih k; omega
theorem V.subs_take_succ (l : List V) (k : Nat) (h : k < l.length) : V.subs (l.take (k + 1)) = V.subs (l.take k) + l[k].size := by
  rw [take_snoc' l k h, V.subs_snoc]
theorem V.size_lt (l : List V) (k : Nat) (h : k < l.length) : l[k].size + l.length ≤ V.sizes l := by
  have h2 := V.subs_take_le l (k + 1)
  rw [V.subs_take_succ l k h] at h2
  rw [V.sizes_eq]
  omega

mutual
def VR (w : World) : V → List Value → List Nat → Prop
  | ⟨c, n, ks⟩, cs, F => ∃ A cap, cs = [.int .i64 c, .int .i64 n, .slice A ks.length cap] ∧ ks.length ≤ cap ∧ cap ≤ maxLen ∧ ((ks = [] ∧ F = []) ∨ ∃ b off ds G, A = some ⟨b, off, none⟩ ∧ CellsAt w b off ds ∧ VRs w ks ds G ∧ F = b :: G)
def VRs (w : World) : List V → List Value → List Nat → Prop
  | [], cs, F => cs = [] ∧ F = []
  | x :: xs, cs, F => ∃ c1 c2 F1 F2, cs = c1 ++ c2 ∧ F = F1 ++ F2 ∧ VR w x c1 F1 ∧ VRs w xs c2 F2
end

theorem VRs_eq (w : World) (ks : List V) : ∀ cs F, VRs w ks cs F ↔ Flat (VR w) ks cs F := by
  induction ks with
  | nil => intro cs F; simp [VRs, Flat]
  | cons k ks ih =>
    intro cs F
    simp only [VRs, Flat, ih]

theorem VR_iff {w : World} (v : V) (cs : List Value) (F : List Nat) : VR w v cs F ↔ ∃ kv, cs = [.int .i64 v.c, .int .i64 v.n, kv] ∧ Arr w (VR w) v.ks kv F := by
  obtain ⟨c, n, ks⟩ := v
  simp only [VR, Arr, VRs_eq]
  constructor
  · rintro ⟨A, cap, rfl, h1, h2, h3⟩
    exact ⟨_, rfl, A, cap, rfl, h1, h2, h3⟩
  · rintro ⟨kv, rfl, A, cap, rfl, h1, h2, h3⟩
    exact ⟨A, cap, rfl, h1, h2, h3⟩

theorem VR_len {w : World} (v : V) (cs : List Value) (F : List Nat) (h : VR w v cs F) : cs.length = 3 := by
  obtain ⟨kv, rfl, -⟩ := (VR_iff _ _ _).1 h
  rfl

theorem VR.mono {w w' : World} : ∀ v cs F, Kept F w w' → VR w v cs F → VR w' v cs F := by
  refine V.ind fun c n ks ih cs F hF h => ?_
  rw [VR_iff] at h ⊢
  obtain ⟨kv, rfl, h⟩ := h
  exact ⟨kv, rfl, h.mono hF ih⟩

theorem VR.below {w w' : World} {B : Nat} {v : V} {cs : List Value} {F : List Nat} (h : VR w v cs F) (hb : Below B w w') (hF : Under B F) : VR w' v cs F := VR.mono v cs F (.of_below hb hF) h

theorem VR.drew {w : World} {v : V} {cs : List Value} {F : List Nat} (h : VR w v cs F) : VR w.drew v cs F := VR.mono (w := w) v cs F (fun _ _ => rfl) h
theorem VR.drewN {w : World} {v : V} {cs : List Value} {F : List Nat} (h : VR w v cs F) (n : Nat) : VR (w.drewN n) v cs F := VR.mono (w := w) v cs F (fun _ _ => rfl) h

theorem ArrV.mono {w w' : World} {vs : List V} {x : Value} {F : List Nat} (h : Arr w (VR w) vs x F) (hF : Kept F w w') : Arr w' (VR w') vs x F := h.mono hF fun v _ => VR.mono v
theorem ArrV.below {w w' : World} {B : Nat} {vs : List V} {x : Value} {F : List Nat} (h : Arr w (VR w) vs x F) (hb : Below B w w') (hF : Under B F) : Arr w' (VR w') vs x F := ArrV.mono h (.of_below hb hF)

end Go.Proofs.Ytbffkgfhcmigaaa

namespace Go.Proofs.Ytbffkgfhcmigaaa
open Go.RowKit

/-- a table whose entries are small -/
structure Small (n : Nat) (tab : List Int) : Prop where
  len : tab.length = n * 4
  pos : ∀ s, 0 ≤ tab.getD s 0
  max : ∀ s, tab.getD s 0 ≤ 100000
theorem Small.dep {n : Nat} {tab : List Int} (h : Small n tab) (t : Ty) : 0 ≤ depthIn tab t ∧ depthIn tab t ≤ 100000 := by
  unfold depthIn
  split
  · omega
  · exact ⟨h.pos _, h.max _⟩
theorem depthIn_int {tab : List Int} {t : Ty} (h : t.d = -1) : depthIn tab t = 1 := if_pos h
theorem depthIn_data {tab : List Int} {d i : Nat} (h : d * 4 + i < tab.length) : depthIn tab ⟨(d : Int), (i : Int)⟩ = tab[d * 4 + i] := by
  unfold depthIn
  rw [if_neg (by show ¬ ((d : Int) = -1); omega), slotOf_mk]
  simp [List.getD, List.getElem?_eq_getElem h]
/-- the walk through the arguments, i of them done -/
theorem mostGo_step {tab : List Int} {ls : List Ty} {m : Int} {i : Nat} (h : i < ls.length) : mostGo tab m (ls.drop i) = if depthIn tab ls[i] = 0 then 0 else mostGo tab (max m (depthIn tab ls[i])) (ls.drop (i + 1)) := by
  rw [List.drop_eq_getElem_cons h, mostGo]

set_option maxRecDepth 100000 in
set_option maxHeartbeats 1600000 in
theorem spec_l1Slot (d i : Nat) (hd : d < 4) (hi : i < 4) (w : World) : Calls Try.prog 167 #[.agg #[.int .i64 (d : Int), .int .i64 (i : Int)]] w fun e w' => e = .returned (.int .i64 ((d * 4 + i : Nat) : Int)) ∧ Below w.heap.size w w' := by
  have g1 : (0 : Int) ≤ (d : Int) := by omega
  have g2 : (d : Int) ≤ 3 := by omega
  have g3 : (0 : Int) ≤ (i : Int) := by omega
  have g4 : (i : Int) ≤ 3 := by omega
  go_enter Try.func167, Try.ntmps167
  go_wp2
  go_ret
  exact ⟨ret_int (by omega), (Below.refl _ _).alloc (Nat.le_refl _) _⟩

set_option maxRecDepth 100000 in
set_option maxHeartbeats 1600000 in
theorem spec_l1Depth (n : Nat) (hn : n ≤ 4) (tab : List Int) (htab : Small n tab) (t : Ty) (ht : TyIn n t) (w : World) (v : Value) (F : List Nat) (hx : Arr w (NatR w) tab v F) (hf : Under w.heap.size F) :
    Calls Try.prog 131 #[v, .agg #[.int .i64 t.d, .int .i64 t.i]] w fun e w' => e = .returned (.int .i64 (depthIn tab t)) ∧ Below w.heap.size w w' := by
  obtain ⟨A, cap, rfl, hc1, hc2⟩ := hx.form
  have HX := Lib.hid hx
  have HF := Lib.hid hf
  clear hx hf
  rcases ht with ht | ⟨d, i, rfl, hd, hi⟩
  · have hf := Lib.hid (depthIn_int (tab := tab) ht)
    have t0 : (t.d == -1) = true := by simp [ht]
    clear ht
    go_enter Try.func131, Try.ntmps131
    go_wp2
    go_ret
    exact ⟨ret_int hf.out.symm, (Below.refl _ _).alloc (Nat.le_refl _) _⟩
  · have hsl : d * 4 + i < tab.length := by rw [htab.len]; omega
    have hf := Lib.hid (depthIn_data hsl)
    have t0 : ((d : Int) == -1) = false := by rw [beq_eq_false_iff_ne]; omega
    go_enter Try.func131, Try.ntmps131
    go_wp2_with fail
    refine (spec_l1Slot d i (by omega) hi _).mono ?_
    rintro e w' ⟨rfl, hB'⟩
    have hB0 : Below w.heap.size w (w.alloc (.cells #[.int .i64 (d : Int), .int .i64 (i : Int)] 37)) := (Below.refl _ _).alloc (Nat.le_refl _) _
    have hB := hB0.trans (hB'.mono hB0.size)
    obtain ⟨b, off, rfl⟩ := HX.out.ptr (by omega)
    obtain ⟨hb, c0⟩ := ArrNat.at HX.out HF.out hB (d * 4 + i) hsl
    have g5 : (0 : Int) ≤ ((d * 4 + i : Nat) : Int) := by omega
    have g6 : ((d * 4 + i : Nat) : Int) < (tab.length : Int) := by omega
    generalize hq : d * 4 + i = q at *
    clear hq hB'
    go_wp2
    go_ret
    exact ⟨ret_int hf.out.symm, hB⟩

set_option maxRecDepth 100000 in
set_option maxHeartbeats 1600000 in
theorem spec_l1Most (xs : List Dt) (hw : WorldOK xs) (tab : List Int) (htab : Small xs.length tab) (d i k : Nat) (hd : d < xs.length) (hi : i < 4) (hk : k < xs[d].ctors.length) (w : World) (v u : Value) (F G : List Nat) (hx : Arr w (DtR w) xs v F) (hf : Under w.heap.size F) (hy : Arr w (NatR w) tab u G) (hg : Under w.heap.size G) :
    Calls Try.prog 133 #[v, u, .agg #[.int .i64 (d : Int), .int .i64 (i : Int)], .int .i64 (k : Int)] w fun e w' => e = .returned (.int .i64 (mostIn xs tab ⟨(d : Int), (i : Int)⟩ (k : Int))) ∧ Below w.heap.size w w' := by
  have hmi : mostIn xs tab ⟨(d : Int), (i : Int)⟩ (k : Int) = mostGo tab 0 (argsL xs[d].ctors[k] (i : Int)) := by unfold mostIn; rw [argsOf_get hd hk]
  rw [hmi]
  clear hmi
  have hin : ∀ a ∈ argsL xs[d].ctors[k] (i : Int), TyIn xs.length a := fun a ha => argTy_in (hw.ctor hd hk) (by omega) (by omega) ha
  have hlen : (argsL xs[d].ctors[k] (i : Int)).length ≤ 3 := by rw [argsL_len]; exact (hw.ctor hd hk).args
  have HL := Lib.hid (hw.ctor hd hk).args
  have hn4 := hw.len
  obtain ⟨A, cap, rfl, hc1, hc2⟩ := hx.form
  obtain ⟨A', cap', rfl, hc3, hc4⟩ := hy.form
  have HIN := Lib.hid hin
  have HX := Lib.hid hx
  have HF := Lib.hid hf
  have HY := Lib.hid hy
  have HG := Lib.hid hg
  clear hx hf hy hg
  have HT := Lib.hid htab
  clear hin htab hw
  go_enter Try.func133, Try.ntmps133
  go_wp2_with fail
  have hB0 : Below w.heap.size w (w.alloc (.cells #[.int .i64 (d : Int), .int .i64 (i : Int)] 37)) := (Below.refl _ _).alloc (Nat.le_refl _) _
  refine (spec_l1Args xs d k (i : Int) hd hk _ _ F (ArrDt.below HX.out hB0 HF.out) (HF.out.mono hB0.size) HL.out).mono ?_
  rintro e w3 ⟨v3, F3, rfl, hb3, ha3, -, hfs3⟩
  have hB3 := hB0.trans (hb3.mono hB0.size)
  generalize hass : argsL xs[d].ctors[k] (i : Int) = ls at *
  have HASS := Lib.hid hass
  clear hass
  obtain ⟨A3, cap3, rfl, hd1, hd2⟩ := ha3.form
  have HA := Lib.hid ha3
  have HUA := Lib.hid hfs3.under
  clear ha3 hfs3 hb3 hB0
  go_wp2
  go_loopw [10, 11] (fun mv jv wr => ∃ j : Nat, ∃ m : Int, j ≤ ls.length ∧ jv = .int .i64 j ∧ mv = .int .i64 m ∧ 0 ≤ m ∧ m ≤ 100000 ∧ Hid (mostGo tab 0 ls = mostGo tab m (ls.drop j)) ∧ Below w.heap.size w wr ∧ Hid (Below w3.heap.size w3 wr)) (fun _ jv _ => ls.length - (intOf jv).toNat)
  case atStart => exact ⟨0, 0, Nat.zero_le _, rfl, rfl, by omega, by omega, (show mostGo tab 0 ls = mostGo tab 0 ls from rfl), hB3, Below.refl _ _⟩
  case round =>
    obtain ⟨j, m, hj, rfl, rfl, hm0, hm1, HM, hB, HB3⟩ := hrel
    by_cases hjl : j < ls.length
    · obtain ⟨b3, off3, rfl⟩ := HA.out.ptr (by omega)
      obtain ⟨hb4, a0, a1⟩ := ArrTy.at HA.out HUA.out HB3.out j hjl
      have g5 : (0 : Int) ≤ (j : Int) := by omega
      have g6 : (j : Int) < (ls.length : Int) := by omega
      have hstep := HM.out.trans (mostGo_step hjl)
      have HST := Lib.hid hstep
      clear hstep
      go_wp2_with fail
      refine (spec_l1Depth xs.length hn4 tab HT.out ls[j] (HIN.out _ (List.getElem_mem hjl)) wr _ G (ArrNat.below HY.out hB HG.out) (HG.out.mono hB.size)).mono ?_
      rintro e w5 ⟨rfl, hb5⟩
      have hB5 := hB.trans (hb5.mono hB.size)
      have HB5 := Lib.hid (HB3.out.trans (hb5.mono HB3.out.size))
      have hdp := HT.out.dep ls[j]
      generalize hdd : depthIn tab ls[j] = q at *
      by_cases hq : q = 0
      · have t0 : (q == 0) = true := by simp [hq]
        have hf : Hid (mostGo tab 0 ls = 0) := by have h := HST.out; rw [if_pos hq] at h; exact h
        clear hdd hq
        go_wp2
        go_ret
        exact ⟨ret_int (by rw [HASS.out]; exact hf.out.symm), hB5⟩
      · have t0 : (q == 0) = false := by simpa using hq
        have h2 : mostGo tab 0 ls = mostGo tab (max m q) (ls.drop (j + 1)) := by have h := HST.out; rw [if_neg hq] at h; exact h
        clear hdd hq
        by_cases hgt : m < q
        · have t1 : decide (q > m) = true := by simpa using hgt
          rw [show max m q = q by omega] at h2
          have HM2 := Lib.hid h2
          clear h2 hgt
          go_wp2
          go_roundw
          case rel => exact ⟨j + 1, q, by omega, by go_num, rfl, by omega, by omega, HM2, hB5, HB5⟩
          case measure => (simp [intOf] <;> omega)
        · have t1 : decide (q > m) = false := by simp; omega
          rw [show max m q = m by omega] at h2
          have HM2 := Lib.hid h2
          clear h2 hgt
          go_wp2
          go_roundw
          case rel => exact ⟨j + 1, m, by omega, by go_num, rfl, by omega, by omega, HM2, hB5, HB5⟩
          case measure => (simp [intOf] <;> omega)
    · have hf : Hid (mostGo tab 0 ls = m + 1) := by
        have h := HM.out
        rw [List.drop_of_length_le (by omega)] at h
        exact h
      go_wp2
      go_ret
      exact ⟨ret_int (by rw [HASS.out]; exact hf.out.symm), hB⟩
end Go.Proofs.Ytbffkgfhcmigaaa

namespace Go.Proofs.Ytbffkgfhcmigaaa
open Go.RowKit

def cellsOf (l : List Int) : Array Value := (l.map (Value.int .i64)).toArray
/-- the sixteen cells of the program's table -/
def pad (tab : List Int) : List Int := tab ++ List.replicate (16 - tab.length) 0
theorem cellsOf_get {l : List Int} {s : Nat} (h : s < l.length) : (cellsOf l)[s]? = some (.int .i64 l[s]) := by
  unfold cellsOf
  simp [List.getElem?_map, List.getElem?_eq_getElem h]
theorem cellsOf_set (l : List Int) (s : Nat) (n : Int) : (cellsOf l).setIfInBounds s (.int .i64 n) = cellsOf (l.set s n) := by
  unfold cellsOf
  rw [List.setIfInBounds_toArray, List.map_set]
theorem pad_get {tab : List Int} {s : Nat} (h : s < tab.length) (h2 : s < (pad tab).length) : (pad tab)[s] = tab[s] := by
  have h3 : (pad tab)[s]? = some tab[s] := by unfold pad; rw [List.getElem?_append_left h, List.getElem?_eq_getElem h]
  rw [List.getElem?_eq_getElem h2] at h3
  exact Option.some.inj h3
theorem pad_len {tab : List Int} (h : tab.length ≤ 16) : (pad tab).length = 16 := by unfold pad; rw [List.length_append, List.length_replicate]; omega
theorem pad_set {tab : List Int} {s : Nat} (h : s < tab.length) (n : Int) : (pad tab).set s n = pad (tab.set s n) := by
  unfold pad; rw [List.set_append_left _ _ h, List.length_set]
/-- block g holds the program's table -/
def Tab (w : World) (g : Nat) (tab : List Int) : Prop := Blk w g 174 (cellsOf (pad tab))
theorem Tab.cell {w : World} {g : Nat} {tab : List Int} (h : Tab w g tab) {s : Nat} (hs : s < tab.length) : w.cell? ⟨g, s, none⟩ = some (.int .i64 tab[s]) := by
  have hp : s < (pad tab).length := by unfold pad; rw [List.length_append]; omega
  rw [(show Blk w g 174 (cellsOf (pad tab)) from h).cell s, cellsOf_get hp, pad_get hs hp]

set_option maxRecDepth 100000 in
set_option maxHeartbeats 1600000 in
theorem impl_of (n : Nat) (hn : n ≤ 4) (tab : List Int) (htab : Small n tab) (t : Ty) (ht : TyIn n t) (w : World) (g : Nat) (hx : Tab w g tab) :
    Calls Try.prog 122 #[.pointer (some ⟨g, 0, none⟩), .agg #[.int .i64 t.d, .int .i64 t.i]] w fun e w' => e = .returned (.int .i64 (depthIn tab t)) ∧ Below w.heap.size w w' := by
  have hgl := Blk.lt hx
  have HX := Lib.hid hx
  clear hx
  rcases ht with ht | ⟨d, i, rfl, hd, hi⟩
  · have hf := Lib.hid (depthIn_int (tab := tab) ht)
    have t0 : (t.d == -1) = true := by simp [ht]
    clear ht
    go_enter Try.func122, Try.ntmps122
    go_wp2
    go_ret
    exact ⟨ret_int hf.out.symm, (Below.refl _ _).alloc (Nat.le_refl _) _⟩
  · have hsl : d * 4 + i < tab.length := by rw [htab.len]; omega
    have hf := Lib.hid (depthIn_data hsl)
    have t0 : ((d : Int) == -1) = false := by rw [beq_eq_false_iff_ne]; omega
    have c0 := HX.out.cell hsl
    have g1 : (0 : Int) ≤ (d : Int) := by omega
    have g2 : (d : Int) < 4 := by omega
    have g3 : (0 : Int) ≤ (i : Int) := by omega
    have g4 : (i : Int) < 4 := by omega
    have HB := Lib.hid (fun q => below_drewN ((Below.refl w.heap.size w).alloc (Nat.le_refl _) (.cells #[.int .i64 (d : Int), .int .i64 (i : Int)] 37)) q)
    go_enter Try.func122, Try.ntmps122
    go_wp2_with fail
    go_quiet (fail)
    go_wp2
    go_ret
    exact ⟨ret_int hf.out.symm, HB.out _⟩

set_option maxRecDepth 100000 in
set_option maxHeartbeats 1600000 in
theorem impl_ofCtor (xs : List Dt) (hw : WorldOK xs) (tab : List Int) (htab : Small xs.length tab) (d i k : Nat) (hd : d < xs.length) (hi : i < 4) (hk : k < xs[d].ctors.length) (w : World) (v : Value) (F : List Nat) (g : Nat) (hx : Arr w (DtR w) xs v F) (hf : Under w.heap.size F) (hy : Tab w g tab) :
    Calls Try.prog 142 #[.pointer (some ⟨g, 0, none⟩), v, .agg #[.int .i64 (d : Int), .int .i64 (i : Int)], .int .i64 (k : Int)] w fun e w' => e = .returned (.int .i64 (mostIn xs tab ⟨(d : Int), (i : Int)⟩ (k : Int))) ∧ Below w.heap.size w w' := by
  have hmi : mostIn xs tab ⟨(d : Int), (i : Int)⟩ (k : Int) = mostGo tab 0 (argsL xs[d].ctors[k] (i : Int)) := by unfold mostIn; rw [argsOf_get hd hk]
  rw [hmi]
  clear hmi
  have hin : ∀ a ∈ argsL xs[d].ctors[k] (i : Int), TyIn xs.length a := fun a ha => argTy_in (hw.ctor hd hk) (by omega) (by omega) ha
  have hlen : (argsL xs[d].ctors[k] (i : Int)).length ≤ 3 := by rw [argsL_len]; exact (hw.ctor hd hk).args
  have HL := Lib.hid (hw.ctor hd hk).args
  have hn4 := hw.len
  have hgl := Blk.lt hy
  obtain ⟨A, cap, rfl, hc1, hc2⟩ := hx.form
  have HIN := Lib.hid hin
  have HX := Lib.hid hx
  have HF := Lib.hid hf
  have HY := Lib.hid hy
  clear hx hf hy
  have HT := Lib.hid htab
  clear hin htab hw
  go_enter Try.func142, Try.ntmps142
  go_wp2_with fail
  have hB0 : Below w.heap.size w (w.alloc (.cells #[.int .i64 (d : Int), .int .i64 (i : Int)] 37)) := (Below.refl _ _).alloc (Nat.le_refl _) _
  refine (impl_argTypes xs d k (i : Int) hd hk _ _ F (ArrDt.below HX.out hB0 HF.out) (HF.out.mono hB0.size) HL.out).mono ?_
  rintro e w3 ⟨v3, F3, rfl, hb3, ha3, -, hfs3⟩
  have hB3 := hB0.trans (hb3.mono hB0.size)
  generalize hass : argsL xs[d].ctors[k] (i : Int) = ls at *
  have HASS := Lib.hid hass
  clear hass
  obtain ⟨A3, cap3, rfl, hd1, hd2⟩ := ha3.form
  have HA := Lib.hid ha3
  have HUA := Lib.hid hfs3.under
  clear ha3 hfs3 hb3 hB0
  go_wp2
  go_loopw [9, 18] (fun mv jv wr => ∃ j : Nat, ∃ m : Int, j ≤ ls.length ∧ jv = .int .i64 j ∧ mv = .int .i64 m ∧ 0 ≤ m ∧ m ≤ 100000 ∧ Hid (mostGo tab 0 ls = mostGo tab m (ls.drop j)) ∧ Below w.heap.size w wr ∧ Hid (Below w3.heap.size w3 wr)) (fun _ jv _ => ls.length - (intOf jv).toNat)
  case atStart => exact ⟨0, 0, Nat.zero_le _, rfl, rfl, by omega, by omega, (show mostGo tab 0 ls = mostGo tab 0 ls from rfl), hB3, Below.refl _ _⟩
  case round =>
    obtain ⟨j, m, hj, rfl, rfl, hm0, hm1, HM, hB, HB3⟩ := hrel
    by_cases hjl : j < ls.length
    · obtain ⟨b3, off3, rfl⟩ := HA.out.ptr (by omega)
      obtain ⟨hb4, a0, a1⟩ := ArrTy.at HA.out HUA.out HB3.out j hjl
      have g5 : (0 : Int) ≤ (j : Int) := by omega
      have g6 : (j : Int) < (ls.length : Int) := by omega
      have hstep := HM.out.trans (mostGo_step hjl)
      have HST := Lib.hid hstep
      have hbx : Below wr.heap.size wr (wr.alloc (.cells #[.int .i64 ls[j].d, .int .i64 ls[j].i] 37)) := (Below.refl _ _).alloc (Nat.le_refl _) _
      have hBx := hB.trans (hbx.mono hB.size)
      have HYx : Hid (Tab (wr.alloc (.cells #[.int .i64 ls[j].d, .int .i64 ls[j].i] 37)) g tab) := Blk.same HY.out (hBx.block _ hgl)
      clear hstep
      go_wp2_with fail
      refine (impl_of xs.length hn4 tab HT.out ls[j] (HIN.out _ (List.getElem_mem hjl)) _ g HYx.out).mono ?_
      rintro e w5 ⟨rfl, hb5⟩
      have hB5 := hBx.trans (hb5.mono hBx.size)
      have HB5 := Lib.hid ((HB3.out.trans (hbx.mono HB3.out.size)).trans (hb5.mono (HB3.out.trans (hbx.mono HB3.out.size)).size))
      have hdp := HT.out.dep ls[j]
      generalize hdd : depthIn tab ls[j] = q at *
      by_cases hq : q = 0
      · have t0 : (q == 0) = true := by simp [hq]
        have hf : Hid (mostGo tab 0 ls = 0) := by have h := HST.out; rw [if_pos hq] at h; exact h
        clear hdd hq
        go_wp2
        go_ret
        exact ⟨ret_int (by rw [HASS.out]; exact hf.out.symm), hB5⟩
      · have t0 : (q == 0) = false := by simpa using hq
        have h2 : mostGo tab 0 ls = mostGo tab (max m q) (ls.drop (j + 1)) := by have h := HST.out; rw [if_neg hq] at h; exact h
        clear hdd hq
        have HM2 := Lib.hid h2
        clear h2
        go_wp2
        go_roundw
        case rel => exact ⟨j + 1, max m q, by omega, by go_num, (by congr 1; omega), by omega, by omega, HM2, hB5, HB5⟩
        case measure => (simp [intOf] <;> omega)
    · have hf : Hid (mostGo tab 0 ls = m + 1) := by
        have h := HM.out
        rw [List.drop_of_length_le (by omega)] at h
        exact h
      go_wp2
      go_ret
      exact ⟨ret_int (by rw [HASS.out]; exact hf.out.symm), hB⟩
end Go.Proofs.Ytbffkgfhcmigaaa

namespace Go.Proofs.Ytbffkgfhcmigaaa
open Go.RowKit

theorem CellsAt.nil (w : World) (b off : Nat) : CellsAt w b off [] := fun j u h => by simp at h
theorem CellsAt.cons {w : World} {b off : Nat} {a : Value} {cs : List Value} (h : w.cell? ⟨b, off, none⟩ = some a) (hc : CellsAt w b (off + 1) cs) : CellsAt w b off (a :: cs) := fun j u hj => by
  cases j with
  | zero => simp at hj; subst hj; exact h
  | succ j =>
    have := hc j u (by simpa using hj)
    rwa [show off + 1 + j = off + (j + 1) by omega] at this
theorem Kept.refl (F : List Nat) (w : World) : Kept F w w := fun _ _ => rfl
theorem Kept.set {F : List Nat} {w w' : World} {b j : Nat} {u : Value} (h : Kept F w w') (hb : b ∉ F) : Kept F w (w'.setCell ⟨b, j, none⟩ u) := fun c hc =>
  (Below.heap_setCell _ _ _ _ (fun e => hb (by rw [← show c = b from e]; exact hc))).trans (h c hc)
theorem Kept.step {F : List Nat} {w w' w'' : World} (h : Kept F w w') (hb : Below w'.heap.size w' w'') (hF : Under w'.heap.size F) : Kept F w w'' := fun c hc => (hb.block c (hF c hc)).trans (h c hc)

/-- w' differs from w in the blocks of F alone -/
structure Chg (F : List Nat) (w w' : World) : Prop where
  os : w'.os = w.os
  tape : w'.tape = w.tape
  output : w'.output = w.output
  size : w.heap.size ≤ w'.heap.size
  block : ∀ b, b < w.heap.size → b ∉ F → w'.heap[b]? = w.heap[b]?
theorem Chg.refl (F : List Nat) (w : World) : Chg F w w := ⟨rfl, rfl, rfl, Nat.le_refl _, fun _ _ _ => rfl⟩
theorem Chg.trans {F : List Nat} {a b c : World} (h : Chg F a b) (k : Chg F b c) : Chg F a c :=
  ⟨k.os.trans h.os, k.tape.trans h.tape, k.output.trans h.output, Nat.le_trans h.size k.size, fun i hi hF => (k.block i (Nat.lt_of_lt_of_le hi h.size) hF).trans (h.block i hi hF)⟩
theorem Chg.mono {F G : List Nat} {w w' : World} (h : Chg F w w') (hs : ∀ b ∈ F, b ∈ G) : Chg G w w' := ⟨h.os, h.tape, h.output, h.size, fun b hb hG => h.block b hb fun hf => hG (hs b hf)⟩
theorem Chg.of_below {F : List Nat} {w w' : World} (h : Below w.heap.size w w') : Chg F w w' := ⟨h.os, h.tape, h.output, h.size, fun b hb _ => h.block b hb⟩
theorem Chg.kept {F G : List Nat} {w w' : World} (h : Chg F w w') (hG : Under w.heap.size G) (hd : ∀ b ∈ G, b ∉ F) : Kept G w w' := fun b hb => h.block b (hG b hb) (hd b hb)
theorem Chg.below {F : List Nat} {w w' : World} {B : Nat} (h : Chg F w w') (hF : ∀ b ∈ F, B ≤ b) (hB : B ≤ w.heap.size) : Below B w w' :=
  ⟨h.os, h.tape, h.output, h.size, fun b hb => h.block b (Nat.lt_of_lt_of_le hb hB) fun hf => Nat.lt_irrefl _ (Nat.lt_of_lt_of_le hb (hF b hf))⟩

theorem Chg.set {F : List Nat} {w w' : World} {b j : Nat} {u : Value} (h : Chg F w w') (hb : b ∈ F) : Chg F w (w'.setCell ⟨b, j, none⟩ u) :=
  ⟨h.os, h.tape, h.output, Nat.le_trans h.size (by simp [World.setCell]), fun c hc hF => (Below.heap_setCell _ _ _ _ (fun e => hF (by rw [show c = b from e]; exact hb))).trans (h.block c hc hF)⟩
theorem Chg.step {F : List Nat} {w w' w'' : World} (h : Chg F w w') (hb : Below w'.heap.size w' w'') : Chg F w w'' := h.trans (.of_below hb)
theorem Chg.drew {F : List Nat} {w w' : World} (h : Chg F w w') : Chg F w w'.drew := ⟨h.os, h.tape, h.output, h.size, h.block⟩
theorem Chg.drewN {F : List Nat} {w w' : World} (h : Chg F w w') (n : Nat) : Chg F w (w'.drewN n) := ⟨h.os, h.tape, h.output, h.size, h.block⟩
theorem Chg.cell {F : List Nat} {w w' : World} (h : Chg F w w') {p : Addr} (hp : p.block < w.heap.size) (hn : p.block ∉ F) : w'.cell? p = w.cell? p := World.cell?_of_block (w := w) (h.block p.block hp hn)
theorem Chg.undrew {F : List Nat} {w w' : World} (h : Chg F w.drew w') : Chg F w w' := ⟨h.os, h.tape, h.output, h.size, h.block⟩

/-- beside the blocks of F, cells lo .. lo + n - 1 of block b may have changed -/
structure Upd (b lo n : Nat) (F : List Nat) (w w' : World) : Prop extends Chg (b :: F) w w' where
  cells : ∀ j, j < lo ∨ lo + n ≤ j → w'.cell? ⟨b, j, none⟩ = w.cell? ⟨b, j, none⟩
  froz : ∀ j, w'.frozen? ⟨b, j, none⟩ = w.frozen? ⟨b, j, none⟩
theorem Upd.refl (b lo n : Nat) (F : List Nat) (w : World) : Upd b lo n F w w := ⟨Chg.refl _ _, fun _ _ => rfl, fun _ => rfl⟩
theorem Upd.trans {b lo n : Nat} {F : List Nat} {x y z : World} (h : Upd b lo n F x y) (k : Upd b lo n F y z) : Upd b lo n F x z :=
  ⟨h.toChg.trans k.toChg, fun j hj => (k.cells j hj).trans (h.cells j hj), fun j => (k.froz j).trans (h.froz j)⟩
theorem Upd.set {b lo n : Nat} {F : List Nat} {x y : World} (h : Upd b lo n F x y) {j : Nat} (h1 : lo ≤ j) (h2 : j < lo + n) (u : Value) : Upd b lo n F x (y.setCell ⟨b, j, none⟩ u) :=
  h.trans ⟨⟨rfl, rfl, rfl, by simp [World.setCell], fun c _ hc => Below.heap_setCell _ _ _ _ (fun e => hc (by rw [e]; exact List.mem_cons_self))⟩,
    fun i hi => World.cell?_setCell_other _ _ _ _ (by intro e; injection e; omega), fun i => World.frozen?_setCell _ _ _ _⟩
theorem Upd.sub {b lo n : Nat} {F : List Nat} {x y z : World} (h : Upd b lo n F x y) (hc : Chg F y z) (hb : b ∉ F) (hlt : b < y.heap.size) : Upd b lo n F x z :=
  h.trans ⟨hc.mono fun c hc => List.mem_cons_of_mem _ hc, fun j _ => World.cell?_of_block (w := y) (a := ⟨b, j, none⟩) (hc.block b hlt hb), fun j => World.frozen?_of_block (w := y) (a := ⟨b, j, none⟩) (hc.block b hlt hb)⟩
theorem Upd.below {b lo n : Nat} {F : List Nat} {x y z : World} (h : Upd b lo n F x y) (hc : Below y.heap.size y z) (hlt : b < y.heap.size) : Upd b lo n F x z :=
  h.trans ⟨.of_below hc, fun j _ => hc.cell (p := ⟨b, j, none⟩) hlt, fun j => hc.frozen (p := ⟨b, j, none⟩) hlt⟩

theorem Flat.len_eq {α : Type} {R : α → List Value → List Nat → Prop} {k : Nat} (hk : ∀ x cs F, R x cs F → cs.length = k) {xs : List α} {c : List Value} {F : List Nat} (h : Flat R xs c F) : c.length = xs.length * k := h.length hk

section
variable {α : Type} {R : World → α → List Value → List Nat → Prop} {k : Nat}

/-- one element in view: what may be done to it -/
theorem Arr.focus (hRl : ∀ w x cs G, R w x cs G → cs.length = k) (hRm : ∀ w w' x cs G, Kept G w w' → R w x cs G → R w' x cs G) {w : World} {xs : List α} {v : Value} {F : List Nat}
    (h : Arr w (R w) xs v F) (hfr : Free w F) (hF : Under w.heap.size F) {i : Nat} (hi : i < xs.length) :
    ∃ b off c F1 F2 F3 cap, v = .slice (some ⟨b, off, none⟩) xs.length cap ∧ F = b :: (F1 ++ (F2 ++ F3)) ∧ CellsAt w b (off + i * k) c ∧ R w xs[i] c F2 ∧ Free w F2 ∧ b ∉ F2 ∧ b < w.heap.size ∧ (∀ j, w.frozen? ⟨b, j, none⟩ = false) ∧ Under w.heap.size F2 ∧
      ∀ w' y c', Upd b (off + i * k) k F2 w w' → CellsAt w' b (off + i * k) c' → R w' y c' F2 → Free w' F2 → Arr w' (R w') (xs.set i y) v F ∧ Free w' F ∧ Chg F w w' := by
  obtain ⟨A, cap, rfl, h1, h2, h3⟩ := h
  rcases h3 with ⟨rfl, -⟩ | ⟨b, off, cs, G, rfl, hc, hf, rfl⟩
  · simp at hi
  have hxs : xs = xs.take i ++ (xs[i] :: xs.drop (i + 1)) := by rw [← List.drop_eq_getElem_cons hi, List.take_append_drop]
  have hf' := hf
  rw [hxs] at hf'
  obtain ⟨c1, c23, F1, F23, rfl, rfl, g1, g23⟩ := Flat.split (xs.take i) hf'
  obtain ⟨c2, c3, F2, F3, rfl, rfl, g2, g3⟩ := g23
  have l1 : c1.length = i * k := by rw [g1.length (hRl w), List.length_take]; congr 1; omega
  have hc2 := hc.right
  rw [l1] at hc2
  have l2 := hRl _ _ _ _ g2
  have nd := List.nodup_cons.1 hfr.1
  have nd1 := List.nodup_append.1 nd.2
  have nd2 := List.nodup_append.1 nd1.2.1
  have hbF2 : b ∉ F2 := fun hb => nd.1 (List.mem_append.2 (.inr (List.mem_append.2 (.inl hb))))
  refine ⟨b, off, c2, F1, F2, F3, cap, rfl, rfl, hc2.left, g2, ⟨nd2.1, fun x hx j => hfr.2 x (by simp [hx]) j⟩, hbF2, hF b (by simp), fun j => hfr.2 b (by simp) j, fun x hx => hF x (by simp [hx]), ?_⟩
  intro w' y c' hu hc' hy hfr2
  have k1 : Kept F1 w w' := hu.toChg.kept (fun x hx => hF x (by simp [hx])) fun x hx hm => by
    rcases List.mem_cons.1 hm with rfl | hm
    · exact nd.1 (by simp [hx])
    · exact nd1.2.2 x hx x (by simp [hm]) rfl
  have k3 : Kept F3 w w' := hu.toChg.kept (fun x hx => hF x (by simp [hx])) fun x hx hm => by
    rcases List.mem_cons.1 hm with rfl | hm
    · exact nd.1 (by simp [hx])
    · exact nd2.2.2 x hm x hx rfl
  have lc' := hRl _ _ _ _ hy
  have hxs' : xs.set i y = xs.take i ++ (y :: xs.drop (i + 1)) := by rw [List.set_eq_take_append_cons_drop, if_pos hi]
  refine ⟨?_, ?_, ?_⟩
  · rw [hxs']
    refine ⟨_, cap, by rw [← hxs', List.length_set], by rw [← hxs', List.length_set]; exact h1, h2, .inr ⟨b, off, c1 ++ (c' ++ c3), F1 ++ (F2 ++ F3), rfl, ?_, ?_, rfl⟩⟩
    · refine CellsAt.append (fun j u hj => ?_) (CellsAt.append ?_ (fun j u hj => ?_))
      · have hjl := (List.getElem?_eq_some_iff.1 hj).1
        rw [hu.cells _ (.inl (by omega))]
        exact hc.left j u hj
      · rw [l1]; exact hc'
      · rw [l1, hu.cells _ (.inr (by omega))]
        have := hc2.right j u hj
        rw [l2] at this
        rwa [lc']
    · exact (g1.mono fun x _ cs H hH hr => hRm _ _ x cs H (fun z hz => k1 z (hH z hz)) hr).append ⟨c', c3, F2, F3, rfl, rfl, hy, g3.mono fun x _ cs H hH hr => hRm _ _ x cs H (fun z hz => k3 z (hH z hz)) hr⟩
  · refine ⟨hfr.1, fun x hx j => ?_⟩
    rcases List.mem_cons.1 hx with rfl | hx
    · rw [hu.froz j]; exact hfr.2 x (by simp) j
    · rcases List.mem_append.1 hx with hx | hx
      · rw [World.frozen?_of_block (w := w) (a := ⟨x, j, none⟩) (k1 x hx)]; exact hfr.2 x (by simp [hx]) j
      · rcases List.mem_append.1 hx with hx | hx
        · exact hfr2.2 x hx j
        · rw [World.frozen?_of_block (w := w) (a := ⟨x, j, none⟩) (k3 x hx)]; exact hfr.2 x (by simp [hx]) j
  · exact hu.toChg.mono fun x hx => by
      rcases List.mem_cons.1 hx with rfl | hx <;> simp [*]
end

/-! ### What marking makes of a list -/
def mkS {α : Type} (mk : Int → α → α) (cnt : α → Nat) : Int → List α → List α
  | _, [] => []
  | k, x :: xs => mk k x :: mkS mk cnt (k + cnt x) xs
section
variable {α : Type} {mk : Int → α → α} {cnt : α → Nat}
theorem mkS_length : ∀ (xs : List α) (k : Int), (mkS mk cnt k xs).length = xs.length
  | [], _ => rfl
  | x :: xs, k => by rw [mkS, List.length_cons, mkS_length xs, List.length_cons]
theorem mkS_snoc : ∀ (xs : List α) (k : Int) (x : α), mkS mk cnt k (xs ++ [x]) = mkS mk cnt k xs ++ [mk (k + sumBy cnt xs) x]
  | [], k, x => by simp [mkS, sumBy]
  | y :: xs, k, x => by
    simp only [List.cons_append, mkS, mkS_snoc xs, sumBy]
    congr 4; omega
theorem mkS_get {xs : List α} {k : Int} {i : Nat} (hi : i < xs.length) : (mkS mk cnt k xs)[i]? = some (mk (k + sumBy cnt (xs.take i)) xs[i]) := by
  have h : ∀ (xs : List α) (k : Int) (i : Nat) (hi : i < xs.length), (mkS mk cnt k xs)[i]? = some (mk (k + sumBy cnt (xs.take i)) xs[i]) := by
    intro xs
    induction xs with
    | nil => intro k i hi; simp at hi
    | cons x xs ih =>
      intro k i hi
      cases i with
      | zero => simp [mkS, sumBy]
      | succ i =>
        simp only [mkS, List.getElem?_cons_succ, List.take_succ_cons, sumBy, List.getElem_cons_succ]
        rw [ih (k + cnt x) i (by simpa using hi)]
        congr 2; omega
  exact h xs k i hi
/-- the first i elements are marked already -/
def mkTo (mk : Int → α → α) (cnt : α → Nat) (k : Int) (xs : List α) (i : Nat) : List α := mkS mk cnt k (xs.take i) ++ xs.drop i
theorem mkTo_length (k : Int) (xs : List α) (i : Nat) : (mkTo mk cnt k xs i).length = xs.length := by unfold mkTo; rw [List.length_append, mkS_length, ← List.length_append, List.take_append_drop]
theorem mkTo_zero (k : Int) (xs : List α) : mkTo mk cnt k xs 0 = xs := rfl
theorem mkTo_all (k : Int) (xs : List α) {i : Nat} (h : xs.length ≤ i) : mkTo mk cnt k xs i = mkS mk cnt k xs := by unfold mkTo; rw [List.take_of_length_le h, List.drop_of_length_le h, List.append_nil]
theorem mkTo_get {k : Int} {xs : List α} {i : Nat} (hi : i < xs.length) : (mkTo mk cnt k xs i)[i]'(by rw [mkTo_length]; exact hi) = xs[i] := by
  unfold mkTo
  rw [List.getElem_append_right (by rw [mkS_length, List.length_take]; omega)]
  simp only [mkS_length, List.length_take, Nat.min_eq_left (Nat.le_of_lt hi), Nat.sub_self, List.getElem_drop, Nat.add_zero]
theorem mkTo_step {k : Int} {xs : List α} {i : Nat} (hi : i < xs.length) : (mkTo mk cnt k xs i).set i (mk (k + sumBy cnt (xs.take i)) xs[i]) = mkTo mk cnt k xs (i + 1) := by
  unfold mkTo
  rw [take_snoc' xs i hi, mkS_snoc, List.set_append_right _ _ (by rw [mkS_length, List.length_take]; omega), mkS_length, List.length_take, Nat.min_eq_left (Nat.le_of_lt hi), Nat.sub_self, List.drop_eq_getElem_cons hi, List.set_cons_zero, List.append_assoc]
  rfl
theorem sumBy_step (f : α → Nat) {xs : List α} {i : Nat} (hi : i < xs.length) (k : Int) : k + sumBy f (xs.take (i + 1)) = k + sumBy f (xs.take i) + f xs[i] := by rw [sumBy_take_succ f xs i hi]; omega
end
end Go.Proofs.Ytbffkgfhcmigaaa

namespace Go.Proofs.Ytbffkgfhcmigaaa
open Go.RowKit

/-- the table in sweep n, at slot s, when i constructors of it have been looked at -/
def St (xs : List Dt) (n s i : Nat) : List Int := slotGo xs s (sweepTo xs (sweeps xs n) s) ((ctorsL xs (tyAt s)).take i)
theorem St_zero (xs : List Dt) (n s : Nat) : St xs n s 0 = sweepTo xs (sweeps xs n) s := rfl
theorem St_step {xs : List Dt} {n s i : Nat} (h : i < (ctorsL xs (tyAt s)).length) : St xs n s (i + 1) = putIf (St xs n s i) s (mostIn xs (St xs n s i) (tyAt s) (ctorsL xs (tyAt s))[i]) := by
  unfold St; rw [take_snoc' _ i h, slotGo_snoc]
theorem St_all {xs : List Dt} {n s i : Nat} (h : (ctorsL xs (tyAt s)).length ≤ i) : St xs n s i = sweepTo xs (sweeps xs n) (s + 1) := by
  unfold St; rw [List.take_of_length_le h, sweepTo_succ]
theorem St_sound {xs : List Dt} (hw : WorldOK xs) {n s i : Nat} (hs : s < xs.length * 4) : Sound xs (St xs n s i) :=
  Sound.slot hw hs (fun k hk => List.mem_of_mem_take hk) ((sound_sweeps hw n).to hw (by omega))
theorem St_le {xs : List Dt} {n s i : Nat} (hs : s < xs.length * 4) : Le (sweeps xs n) (St xs n s i) :=
  (le_to xs _ s (by rw [sweeps_length]; omega)).trans (le_slot xs s _ _ (by rw [sweepTo_length, sweeps_length]; exact hs))
def MaxB (tab : List Int) (B : Int) : Prop := ∀ s, tab.getD s 0 ≤ B
theorem mostGo_max {tab : List Int} {B : Int} (h : MaxB tab B) (hB : 1 ≤ B) : ∀ {ls : List Ty} {m : Int}, m ≤ B → mostGo tab m ls ≤ B + 1
  | [], m, hm => by simp only [mostGo]; omega
  | a :: ls, m, hm => by
    simp only [mostGo]
    split
    · omega
    · refine mostGo_max h hB ?_
      have : depthIn tab a ≤ B := by
        unfold depthIn
        split
        · omega
        · exact h _
      omega
theorem put_max {xs : List Dt} {tab : List Int} {B : Int} (h : MaxB tab B) (hB : 1 ≤ B) (s : Nat) (k : Int) : MaxB (putIf tab s (mostIn xs tab (tyAt s) k)) (B + 1) := by
  intro r
  unfold putIf
  split
  · by_cases hs : s < tab.length
    · rw [getD_set _ _ _ _ hs]
      split
      · exact mostGo_max h hB (by omega)
      · have := h r; omega
    · rw [List.set_eq_of_length_le (by omega)]; have := h r; omega
  · have := h r; omega
theorem slot_max {xs : List Dt} (s : Nat) : ∀ (ks : List Int) {tab : List Int} {B : Int}, MaxB tab B → 1 ≤ B → MaxB (slotGo xs s tab ks) (B + ks.length)
  | [], tab, B, h, _ => fun r => by have := h r; simpa [slotGo_nil] using this
  | k :: ks, tab, B, h, hB => by
    rw [slotGo_cons]
    have := slot_max (xs := xs) s ks (put_max (xs := xs) h hB s k) (by omega)
    intro r
    have := this r
    simp only [List.length_cons]
    omega
theorem ctorsL_len {xs : List Dt} (hw : WorldOK xs) {s : Nat} (hs : s < xs.length * 4) : (ctorsL xs (tyAt s)).length ≤ 4 := by
  have hd : s / 4 < xs.length := by omega
  have e : ctorsL xs (tyAt s) = fitTo xs[s / 4].ctors ((s % 4 : Nat) : Int) xs[s / 4].ctors.length := ctorsL_data hd
  rw [e]
  exact Nat.le_trans (fitTo_len _ _ _) (hw.at hd).hi
theorem to_max {xs : List Dt} (hw : WorldOK xs) {tab : List Int} {B : Int} (h : MaxB tab B) (hB : 1 ≤ B) : ∀ {s : Nat}, s ≤ xs.length * 4 → MaxB (sweepTo xs tab s) (B + 4 * s)
  | 0, _ => fun r => by have := h r; simpa [sweepTo_zero] using this
  | s + 1, hs => by
    rw [sweepTo_succ]
    have h1 := slot_max (xs := xs) s (ctorsL xs (tyAt s)) (to_max hw h hB (s := s) (by omega)) (by omega)
    have h2 := ctorsL_len hw (s := s) (by omega)
    intro r
    have := h1 r
    omega
theorem sweeps_max {xs : List Dt} (hw : WorldOK xs) : ∀ n, MaxB (sweeps xs n) (1 + 64 * n)
  | 0 => fun r => by
    simp only [sweeps, List.getD]
    rcases Nat.lt_or_ge r (xs.length * 4) with h | h <;> simp [h]
  | n + 1 => fun r => by
    have h := to_max hw (sweeps_max hw n) (by omega) (Nat.le_refl (xs.length * 4)) r
    have hl := hw.len
    show (sweepTo xs (sweeps xs n) (xs.length * 4)).getD r 0 ≤ _
    omega
theorem St_small {xs : List Dt} (hw : WorldOK xs) {n s i : Nat} (hs : s < xs.length * 4) (hn : n ≤ 100) : Small xs.length (St xs n s i) := by
  have h1 := St_sound hw (n := n) (i := i) hs
  refine ⟨h1.len, h1.pos, fun r => ?_⟩
  have h2 := slot_max (xs := xs) s ((ctorsL xs (tyAt s)).take i) (to_max hw (sweeps_max hw n) (by omega) (s := s) (by omega)) (by omega) r
  have h3 := ctorsL_len hw hs
  have h4 : ((ctorsL xs (tyAt s)).take i).length ≤ 4 := by rw [List.length_take]; omega
  have hl := hw.len
  unfold St
  omega
theorem table_small {xs : List Dt} (hw : WorldOK xs) {n : Nat} (hn : n ≤ 100) : Small xs.length (sweeps xs n) := by
  have h1 := sound_sweeps hw n
  refine ⟨h1.len, h1.pos, fun r => ?_⟩
  have := sweeps_max hw n r
  omega
theorem getD_get {tab : List Int} {s : Nat} (h : s < tab.length) : tab.getD s 0 = tab[s] := by simp [List.getD, List.getElem?_eq_getElem h]

/-- a block of numbers, read as a slice -/
theorem Blk.nats {w : World} {g : Nat} {tab : List Int} (h : Blk w g 3 (cellsOf tab)) (hm : tab.length ≤ maxLen) : Arr w (NatR w) tab (.slice (some ⟨g, 0, none⟩) tab.length tab.length) [g] ∨ tab = [] := by
  by_cases he : tab = []
  · exact .inr he
  refine .inl ⟨_, _, rfl, Nat.le_refl _, hm, .inr ⟨g, 0, tab.map (Value.int .i64), [], rfl, fun j u hj => ?_, ?_, rfl⟩⟩
  · have hjl : j < tab.length := by have := (List.getElem?_eq_some_iff.1 hj).1; simpa using this
    rw [Nat.zero_add, h.cell, cellsOf_get hjl]
    rw [List.getElem?_map, List.getElem?_eq_getElem hjl] at hj
    simpa using hj
  · have : ∀ l : List Int, Flat (NatR w) l (l.map (Value.int .i64)) [] := by
      intro l
      induction l with
      | nil => exact ⟨rfl, rfl⟩
      | cons x l ih => exact ⟨[.int .i64 x], _, [], [], rfl, rfl, ⟨rfl, rfl⟩, ih⟩
    exact this tab

set_option maxRecDepth 100000 in
set_option maxHeartbeats 1600000 in
theorem spec_l1Table (xs : List Dt) (hw : WorldOK xs) (w : World) (v : Value) (F : List Nat) (hx : Arr w (DtR w) xs v F) (hf : Under w.heap.size F) :
    Calls Try.prog 85 #[v] w (MadeNats w (tableL xs)) := by
  obtain ⟨A, cap, rfl, hc1, hc2⟩ := hx.form
  have hn4 := hw.len
  have HW := Lib.hid hw
  have HX := Lib.hid hx
  have HF := Lib.hid hf
  clear hx hf
  clear hw
  obtain ⟨i0, hi, hz0, hz1, hz2⟩ := info_parts info_int
  have hmk : ∀ W : World, (Instr.makeSlice 123 (.int .i64 ((xs.length : Int) * 4)) (.int .i64 ((xs.length : Int) * 4))).run Try.prog W = .ok (.slice (some ⟨W.heap.size, 0, none⟩) (xs.length * 4) (xs.length * 4)) (W.alloc (.cells (cellsOf (sweeps xs 0)) 3)) := fun W => by
    have h := run_make_rowN (P := Try.prog) 123 3 i0 _ Try.underlying123 hi hz0 .i64 .i64 (xs.length * 4) (xs.length * 4) (Nat.le_refl _) (by rw [hz2]; omega) (by omega) W
    rw [hz1, show ((xs.length * 4 : Nat) : Int) = (xs.length : Int) * 4 by omega] at h
    rw [h]
    congr 2
    have e : (madeCells #[Value.int .i64 0] (xs.length * 4)).toList = (cellsOf (sweeps xs 0)).toList := by
      rw [toList_madeCells_one]
      unfold cellsOf
      simp [sweeps]
    show Obj.cells (madeCells #[Value.int .i64 0] (xs.length * 4 * 1)) _ _ = _
    rw [Nat.mul_one]
    congr 1
    exact Array.toList_inj.1 e
  clear hi hz0 hz1 hz2
  go_enter Try.func85, Try.ntmps85
  go_wp2
  clear hmk
  have hB0 : Below w.heap.size w (w.alloc (.cells (cellsOf (sweeps xs 0)) 3)) := (Below.refl _ _).alloc (Nat.le_refl _) _
  have HT0 : Hid (Blk (w.alloc (.cells (cellsOf (sweeps xs 0)) 3)) w.heap.size 3 (cellsOf (sweeps xs 0))) := Blk.new _ _ _
  go_loopw [4] (fun nv wr => ∃ n : Nat, n ≤ xs.length * 4 + 1 ∧ nv = .int .i64 n ∧ Hid (Blk wr w.heap.size 3 (cellsOf (sweeps xs n))) ∧ Below w.heap.size w wr) (fun nv _ => xs.length * 4 + 1 - (intOf nv).toNat)
  case atStart => exact ⟨0, Nat.zero_le _, rfl, HT0, hB0⟩
  case round =>
    clear hB0 HT0
    obtain ⟨n, hn, rfl, HT, hB⟩ := hrel
    by_cases hnl : n ≤ xs.length * 4
    · have t9 : decide ((n : Int) ≤ (xs.length : Int) * 4) = true := by simp; omega
      go_wp2
      clear t9
      obtain ⟨wo, hwo⟩ : ∃ wo : World, wo = wr := ⟨_, rfl⟩
      go_loopw [5] (fun sv ws => ∃ s : Nat, s ≤ xs.length * 4 ∧ sv = .int .i64 s ∧ Hid (Blk ws w.heap.size 3 (cellsOf (sweepTo xs (sweeps xs n) s))) ∧ Below w.heap.size w ws) (fun sv _ => xs.length * 4 - (intOf sv).toNat)
      case atStart => exact ⟨0, Nat.zero_le _, rfl, HT, hB⟩
      case round =>
        clear hwo HT hB
        obtain ⟨s, hs, rfl, HT, hB⟩ := hrel
        by_cases hsl : s < xs.length * 4
        · obtain ⟨q, hq⟩ : ∃ q : Nat, q = s / 4 := ⟨_, rfl⟩
          obtain ⟨r, hr⟩ : ∃ r : Nat, r = s % 4 := ⟨_, rfl⟩
          have hsq : s = q * 4 + r := by omega
          have hql : q < xs.length := by omega
          have hrl : r < 4 := by omega
          have eq : (s : Int) / 4 = (q : Int) := by omega
          have er : (s : Int) % 4 = (r : Int) := by omega
          have hty : tyAt s = ⟨(q : Int), (r : Int)⟩ := by rw [hsq]; exact tyAt_mk hrl
          have HTY := Lib.hid hty
          have HSQ := Lib.hid hsq
          clear hq hr hty hsq
          have hgl := HT.out.lt
          have hbx : Below wr.heap.size wr (wr.alloc (.cells #[.int .i64 (q : Int), .int .i64 (r : Int)] 37)) := (Below.refl _ _).alloc (Nat.le_refl _) _
          have hBx := hB.trans (hbx.mono hB.size)
          have HTx : Hid (Blk (wr.alloc (.cells #[.int .i64 (q : Int), .int .i64 (r : Int)] 37)) w.heap.size 3 (cellsOf (sweepTo xs (sweeps xs n) s))) := HT.out.same (hbx.block _ hgl)
          have KXx : Hid (Blk (wr.alloc (.cells #[.int .i64 (q : Int), .int .i64 (r : Int)] 37)) wr.heap.size 37 #[.int .i64 (q : Int), .int .i64 (r : Int)]) := Blk.new _ _ _
          go_wp2_with fail
          clear eq er
          refine (spec_l1Ctors xs ⟨(q : Int), (r : Int)⟩ _ _ F (ArrDt.below HX.out hBx HF.out) (HF.out.mono hBx.size) HW.out (.inr ⟨q, rfl, hql⟩)).mono ?_
          rintro e w3 ⟨v3, F3, rfl, hb3, ha3, -, hfs3⟩
          have hB3 := hBx.trans (hb3.mono hBx.size)
          have HT3 := Lib.hid (HTx.out.same (hb3.block _ HTx.out.lt))
          have KX3 := Lib.hid (KXx.out.same (hb3.block _ KXx.out.lt))
          rw [← HTY.out] at ha3
          obtain ⟨A3, cap3, rfl, hd1, hd2⟩ := ha3.form
          have HA3 := Lib.hid ha3
          have HU3 := Lib.hid hfs3.under
          have hgx : wr.heap.size < (wr.alloc (.cells #[.int .i64 (q : Int), .int .i64 (r : Int)] 37)).heap.size := by simp
          have HN3 : Hid (w.heap.size ∉ F3) := fun h => by have := (hfs3 _ h).1; omega
          have HS0 : Hid (Blk w3 w.heap.size 3 (cellsOf (St xs n s 0))) := HT3
          have hne : w.heap.size ≠ wr.heap.size := by omega
          have hbt := wr.heap.size
          generalize hbte : wr.heap.size = bt at *
          have HNE := Lib.hid hne
          clear hbt hbte ha3 hfs3 hb3 hgx HT3 HTx KXx hbx hBx hB HT hne hgl
          go_wp2
          obtain ⟨wo, hwo⟩ : ∃ wo : World, wo = w3 := ⟨_, rfl⟩
          go_loopw [8] (fun iv ws => ∃ i : Nat, i ≤ (ctorsL xs (tyAt s)).length ∧ iv = .int .i64 i ∧ Hid (Blk ws w.heap.size 3 (cellsOf (St xs n s i))) ∧ Hid (Blk ws bt 37 #[.int .i64 (q : Int), .int .i64 (r : Int)]) ∧ Hid (Arr ws (NatR ws) (ctorsL xs (tyAt s)) (.slice A3 (ctorsL xs (tyAt s)).length cap3) F3 ∧ Under ws.heap.size F3) ∧ Below w.heap.size w ws) (fun iv _ => (ctorsL xs (tyAt s)).length - (intOf iv).toNat)
          case atStart => exact ⟨0, Nat.zero_le _, rfl, HS0, KX3, ⟨HA3.out, HU3.out⟩, hB3⟩
          case round =>
            clear hwo HS0 KX3 HA3 HU3 hB3
            obtain ⟨i, hi, rfl, HS, KX, HA, hB⟩ := hrel
            have hgl := HS.out.lt
            have hbl := KX.out.lt
            by_cases hil : i < (ctorsL xs (tyAt s)).length
            · obtain ⟨b7, off7, rfl⟩ := HA.out.1.ptr (by omega)
              obtain ⟨hb7, c7⟩ := ArrNat.at HA.out.1 HA.out.2 (Below.refl _ _) i hil
              obtain ⟨d', k, e1, hki, hd', hk'⟩ := mem_ctorsL (xs := xs) (t := tyAt s) (by rw [HTY.out]; exact .inr ⟨q, rfl, hql⟩) (List.getElem_mem hil)
              rw [HTY.out] at e1
              obtain rfl : q = d' := Int.ofNat.inj e1
              rw [hki] at c7
              have hstep := St_step (n := n) hil
              have hmo : mostIn xs (St xs n s i) (tyAt s) (ctorsL xs (tyAt s))[i] = mostIn xs (St xs n s i) ⟨(q : Int), (r : Int)⟩ (k : Int) := by rw [hki]; exact congrArg (fun t => mostIn xs (St xs n s i) t (k : Int)) HTY.out
              rw [hmo] at hstep
              have HST := Lib.hid hstep
              clear hstep hmo e1 hki
              have hsm := St_small HW.out (n := n) (i := i) hsl (by omega)
              have hsll : s < (St xs n s i).length := by rw [hsm.len]; exact hsl
              have hnat := (HS.out.nats (by rw [hsm.len]; unfold maxLen; omega)).resolve_right (fun e => by rw [e] at hsll; simp at hsll)
              rw [hsm.len] at hnat
              have HNAT := Lib.hid hnat
              have HSM := Lib.hid hsm
              have HUG : Hid (Under wr.drew.heap.size [w.heap.size]) := fun b hb => by rw [List.mem_singleton] at hb; rw [hb]; exact hgl
              clear hnat hsm
              have y0 : wr.cell? ⟨bt, 0, none⟩ = some (.int .i64 (q : Int)) := (KX.out.cell 0).trans (by simp)
              have y1 : wr.cell? ⟨bt, 1, none⟩ = some (.int .i64 (r : Int)) := (KX.out.cell 1).trans (by simp)
              have g1 : (0 : Int) ≤ (i : Int) := by omega
              have g2 : (i : Int) < ((ctorsL xs (tyAt s)).length : Int) := by omega
              go_wp2_with fail
              have hkeep : ∀ U U' : World, (U.cell? ⟨bt, 0, none⟩ = some (.int .i64 (q : Int)) ∧ U.cell? ⟨bt, 1, none⟩ = some (.int .i64 (r : Int)) ∧ U.cell? ⟨b7, off7 + i, none⟩ = some (.int .i64 (k : Int))) → Below U.heap.size U U' → wr.heap.size ≤ U.heap.size → (U'.cell? ⟨bt, 0, none⟩ = some (.int .i64 (q : Int)) ∧ U'.cell? ⟨bt, 1, none⟩ = some (.int .i64 (r : Int)) ∧ U'.cell? ⟨b7, off7 + i, none⟩ = some (.int .i64 (k : Int))) := fun U U' h hUU hU => ⟨(hUU.cell (Nat.lt_of_lt_of_le (hbl) hU)).trans h.1, (hUU.cell (Nat.lt_of_lt_of_le (hbl) hU)).trans h.2.1, (hUU.cell (Nat.lt_of_lt_of_le (hb7) hU)).trans h.2.2⟩
              have HKeep := Lib.hid hkeep
              clear hkeep
              go_region_held3 (fun w' => w'.cell? ⟨bt, 0, none⟩ = some (.int .i64 (q : Int)) ∧ w'.cell? ⟨bt, 1, none⟩ = some (.int .i64 (r : Int)) ∧ w'.cell? ⟨b7, off7 + i, none⟩ = some (.int .i64 (k : Int))) (first | assumption | (exact ⟨y0, y1, c7⟩) | (exact HKeep.out wr.drew w' ⟨y0, y1, c7⟩ hB' (Nat.le_refl _))) (first | (go_at_call 133; ((with_reducible refine (spec_l1Most xs HW.out (St xs n s i) HSM.out q r k hql hrl hk' _ _ _ F [w.heap.size] (ArrDt.below HX.out hB.drew HF.out) (HF.out.mono hB.drew.size) (ArrNat.drew HNAT.out) HUG.out).mono ?_); rintro e w' ⟨rfl, hB'⟩)))
              have hB5 := hB.drew.trans (hB'.mono hB.size)
              have HS5 := Lib.hid (HS.out.same (hB'.block _ hgl))
              have KX5 := Lib.hid (KX.out.same (hB'.block _ hbl))
              have HA5 : Hid (Arr w' (NatR w') (ctorsL xs (tyAt s)) (.slice (some ⟨b7, off7, none⟩) (ctorsL xs (tyAt s)).length cap3) F3 ∧ Under w'.heap.size F3) := ⟨ArrNat.below (w := wr) HA.out.1 (below_undrew hB') HA.out.2, HA.out.2.mono hB'.size⟩
              clear HKeep HNAT c7 y0 y1
              have z0 : w'.cell? ⟨w.heap.size, s, none⟩ = some (.int .i64 (St xs n s i)[s]) := (HS5.out.cell s).trans (cellsOf_get hsll)
              have zf := HS5.out.frozen s
              have hgl5 := HS5.out.lt
              have g3 : (0 : Int) ≤ (s : Int) := by omega
              have g4 : (s : Int) < (xs.length : Int) * 4 := by omega
              have hbet : better (St xs n s i) s (mostIn xs (St xs n s i) ⟨(q : Int), (r : Int)⟩ (k : Int)) = (decide (0 < mostIn xs (St xs n s i) ⟨(q : Int), (r : Int)⟩ (k : Int)) && (decide ((St xs n s i)[s] = 0) || decide (mostIn xs (St xs n s i) ⟨(q : Int), (r : Int)⟩ (k : Int) < (St xs n s i)[s]))) := by
                unfold better; rw [getD_get hsll]
              generalize hm : mostIn xs (St xs n s i) ⟨(q : Int), (r : Int)⟩ (k : Int) = m at *
              have HMM := Lib.hid hm
              generalize hold : (St xs n s i)[s] = old at *
              have HOLD := Lib.hid hold
              clear hm hold
              by_cases h0 : 0 < m
              · have t0 : decide (m > 0) = true := by simpa using h0
                by_cases h1 : old = 0
                · have t1 : (old == 0) = true := by simp [h1]
                  have hb1 : better (St xs n s i) s m = true := by rw [hbet, decide_eq_true h0, decide_eq_true h1]; rfl
                  clear hbet h1
                  have HS6 : Hid (Blk (w'.setCell ⟨w.heap.size, s, none⟩ (.int .i64 m)) w.heap.size 3 (cellsOf (St xs n s (i + 1)))) := by
                    have h := HS5.out.set_ s (.int .i64 m)
                    rw [cellsOf_set, ← putIf_yes hb1, ← HST.out] at h
                    exact h
                  have KX6 : Hid (Blk (w'.setCell ⟨w.heap.size, s, none⟩ (.int .i64 m)) bt 37 #[.int .i64 (q : Int), .int .i64 (r : Int)]) := KX5.out.same (Below.heap_setCell _ _ _ _ (fun e => HNE.out e.symm))
                  have HA6 : Hid (Arr (w'.setCell ⟨w.heap.size, s, none⟩ (.int .i64 m)) (NatR (w'.setCell ⟨w.heap.size, s, none⟩ (.int .i64 m))) (ctorsL xs (tyAt s)) (.slice (some ⟨b7, off7, none⟩) (ctorsL xs (tyAt s)).length cap3) F3 ∧ Under (w'.setCell ⟨w.heap.size, s, none⟩ (.int .i64 m)).heap.size F3) := ⟨ArrNat.kept HA5.out.1 (Kept.set (Kept.refl _ _) HN3.out), HA5.out.2.mono (by simp [World.setCell])⟩
                  have hB6 : Below w.heap.size w (w'.setCell ⟨w.heap.size, s, none⟩ (.int .i64 m)) := hB5.setCell (Nat.le_refl _) _
                  clear hb1
                  go_wp2
                  go_roundw
                  case rel => exact ⟨i + 1, by omega, by go_num, HS6, KX6, HA6, hB6⟩
                  case measure => (simp [intOf] <;> omega)
                · have t1 : (old == 0) = false := by simpa using h1
                  by_cases h2 : m < old
                  · have hb1 : better (St xs n s i) s m = true := by rw [hbet, decide_eq_true h0, decide_eq_true h2, Bool.or_true]; rfl
                    clear hbet h1
                    have HS6 : Hid (Blk (w'.setCell ⟨w.heap.size, s, none⟩ (.int .i64 m)) w.heap.size 3 (cellsOf (St xs n s (i + 1)))) := by
                      have h := HS5.out.set_ s (.int .i64 m)
                      rw [cellsOf_set, ← putIf_yes hb1, ← HST.out] at h
                      exact h
                    have KX6 : Hid (Blk (w'.setCell ⟨w.heap.size, s, none⟩ (.int .i64 m)) bt 37 #[.int .i64 (q : Int), .int .i64 (r : Int)]) := KX5.out.same (Below.heap_setCell _ _ _ _ (fun e => HNE.out e.symm))
                    have HA6 : Hid (Arr (w'.setCell ⟨w.heap.size, s, none⟩ (.int .i64 m)) (NatR (w'.setCell ⟨w.heap.size, s, none⟩ (.int .i64 m))) (ctorsL xs (tyAt s)) (.slice (some ⟨b7, off7, none⟩) (ctorsL xs (tyAt s)).length cap3) F3 ∧ Under (w'.setCell ⟨w.heap.size, s, none⟩ (.int .i64 m)).heap.size F3) := ⟨ArrNat.kept HA5.out.1 (Kept.set (Kept.refl _ _) HN3.out), HA5.out.2.mono (by simp [World.setCell])⟩
                    have hB6 : Below w.heap.size w (w'.setCell ⟨w.heap.size, s, none⟩ (.int .i64 m)) := hB5.setCell (Nat.le_refl _) _
                    clear hb1
                    go_wp2
                    go_roundw
                    case rel => exact ⟨i + 1, by omega, by go_num, HS6, KX6, HA6, hB6⟩
                    case measure => (simp [intOf] <;> omega)
                  · have hb1 : better (St xs n s i) s m = false := by rw [hbet, decide_eq_false h1, decide_eq_false h2]; simp
                    clear hbet h1
                    have HS6 : Hid (Blk w' w.heap.size 3 (cellsOf (St xs n s (i + 1)))) := by
                      have h := HS5.out
                      rw [← movedB_not hb1, ← HST.out] at h
                      exact h
                    clear hb1
                    go_wp2
                    go_roundw
                    case rel => exact ⟨i + 1, by omega, by go_num, HS6, KX5, HA5, hB5⟩
                    case measure => (simp [intOf] <;> omega)
              · have t0 : decide (m > 0) = false := by simp; omega
                have hb1 : better (St xs n s i) s m = false := by rw [hbet, decide_eq_false h0]; rfl
                clear hbet
                have HS6 : Hid (Blk w' w.heap.size 3 (cellsOf (St xs n s (i + 1)))) := by
                  have h := HS5.out
                  rw [← movedB_not hb1, ← HST.out] at h
                  exact h
                clear hb1
                go_wp2
                go_roundw
                case rel => exact ⟨i + 1, by omega, by go_num, HS6, KX5, HA5, hB5⟩
                case measure => (simp [intOf] <;> omega)
            · have HT2 : Hid (Blk wr w.heap.size 3 (cellsOf (sweepTo xs (sweeps xs n) (s + 1)))) := by
                have h := HS.out
                rw [St_all (by omega)] at h
                exact h
              go_wp2
              go_roundw
              case rel => exact ⟨s + 1, by omega, by go_num, HT2, hB⟩
              case measure => (simp [intOf] <;> omega)
        · have HT2 : Hid (Blk wr w.heap.size 3 (cellsOf (sweeps xs (n + 1)))) := by
            have h := HT.out
            rw [show s = xs.length * 4 by omega] at h
            exact h
          go_wp2
          go_roundw
          case rel => exact ⟨n + 1, by omega, by go_num, HT2, hB⟩
          case measure => (simp [intOf] <;> omega)
    · have hfin : MadeNats w (tableL xs) (.returned (.slice (some ⟨w.heap.size, 0, none⟩) (xs.length * 4) (xs.length * 4))) wr := by
        have h := HT.out
        rw [show n = xs.length * 4 + 1 by omega] at h
        have hl : (tableL xs).length = xs.length * 4 := sweeps_length xs _
        rcases Blk.nats (tab := tableL xs) h (by rw [hl]; unfold maxLen; omega) with h1 | h1
        · rw [hl] at h1
          exact ⟨_, [w.heap.size], rfl, hB, h1, ⟨by simp, fun b hb i => by rw [List.mem_singleton] at hb; rw [hb]; exact h.frozen i⟩, fun b hb => by rw [List.mem_singleton] at hb; rw [hb]; exact ⟨Nat.le_refl _, h.lt⟩⟩
        · rw [h1] at hl
          refine ⟨_, [], rfl, hB, ⟨some ⟨w.heap.size, 0, none⟩, xs.length * 4, ?_, ?_, ?_, .inl ⟨h1, rfl⟩⟩, Free.nil _, Fresh.nil _ _⟩
          · rw [h1, ← hl]
          · rw [h1]; simp
          · unfold maxLen; omega
      have HFin := Lib.hid hfin
      clear hfin
      go_wp2
      go_ret
      exact HFin.out
end Go.Proofs.Ytbffkgfhcmigaaa

namespace Go.Proofs.Ytbffkgfhcmigaaa
open Go.RowKit

theorem Tab.same {w w' : World} {g : Nat} {tab : List Int} (h : Tab w g tab) (e : w'.heap[g]? = w.heap[g]?) : Tab w' g tab := Blk.same h e
theorem Tab.lt {w : World} {g : Nat} {tab : List Int} (h : Tab w g tab) : g < w.heap.size := Blk.lt h
theorem Tab.set {w : World} {g : Nat} {tab : List Int} (h : Tab w g tab) {s : Nat} (hs : s < tab.length) (n : Int) : Tab (w.setCell ⟨g, s, none⟩ (.int .i64 n)) g (tab.set s n) := by
  have h1 := Blk.set_ h s (.int .i64 n)
  rw [cellsOf_set, pad_set hs] at h1
  exact h1
theorem sweeps_zero_pad {xs : List Dt} (h : xs.length ≤ 4) : pad (sweeps xs 0) = List.replicate 16 0 := by
  unfold pad
  simp only [sweeps, List.length_replicate]
  rw [List.replicate_append_replicate]
  congr 1
  omega
/-- the call gives a pointer to a table of its own -/
def GivesTab (xs : List Dt) (w : World) (e : Ending) (w' : World) : Prop := ∃ g, e = .returned (.pointer (some ⟨g, 0, none⟩)) ∧ w.heap.size ≤ g ∧ Tab w' g (tableL xs) ∧ Below w.heap.size w w'

set_option maxRecDepth 100000 in
set_option maxHeartbeats 1600000 in
theorem impl_depthsOf (xs : List Dt) (hw : WorldOK xs) (w : World) (v : Value) (F : List Nat) (hx : Arr w (DtR w) xs v F) (hf : Under w.heap.size F) :
    Calls Try.prog 89 #[v] w (GivesTab xs w) := by
  obtain ⟨A, cap, rfl, hc1, hc2⟩ := hx.form
  have hn4 := hw.len
  have HW := Lib.hid hw
  have HX := Lib.hid hx
  have HF := Lib.hid hf
  clear hx hf
  clear hw
  go_enter Try.func89, Try.ntmps89
  go_wp2
  have hB0 : Below w.heap.size w (w.alloc (.cells #[.int .i64 0, .int .i64 0, .int .i64 0, .int .i64 0, .int .i64 0, .int .i64 0, .int .i64 0, .int .i64 0, .int .i64 0, .int .i64 0, .int .i64 0, .int .i64 0, .int .i64 0, .int .i64 0, .int .i64 0, .int .i64 0] 174)) := (Below.refl _ _).alloc (Nat.le_refl _) _
  have HT0 : Hid (Tab (w.alloc (.cells #[.int .i64 0, .int .i64 0, .int .i64 0, .int .i64 0, .int .i64 0, .int .i64 0, .int .i64 0, .int .i64 0, .int .i64 0, .int .i64 0, .int .i64 0, .int .i64 0, .int .i64 0, .int .i64 0, .int .i64 0, .int .i64 0] 174)) w.heap.size (sweeps xs 0)) := by
    unfold Hid Tab
    rw [sweeps_zero_pad hn4]
    exact Blk.new _ _ _
  go_loopg [4] (xs.length * 4 + 3) (fun gk cv wr => ∃ m : Nat, ∃ c : Bool, m + gk = xs.length * 4 + 3 ∧ cv = .bool c ∧ Hid (c = false → sweep xs (sweeps xs m) = sweeps xs m) ∧ (c = true → m ≤ xs.length * 4 + 1) ∧ Hid (Tab wr w.heap.size (sweeps xs m)) ∧ Below w.heap.size w wr)
  case atStart => exact ⟨0, true, by omega, rfl, (fun h => by cases h), (fun _ => by omega), HT0, hB0⟩
  case round =>
    clear hB0 HT0
    obtain ⟨m, c, hmk, rfl, HFX, hmc, HT, hB⟩ := hrel
    cases c with
    | false =>
      have hfin : GivesTab xs w (.returned (.pointer (some ⟨w.heap.size, 0, none⟩))) wr := ⟨_, rfl, Nat.le_refl _, by rw [← fix_table HW.out (HFX.out rfl)]; exact HT.out, hB⟩
      have HFin := Lib.hid hfin
      clear hfin hmc
      go_wp2
      go_ret
      exact HFin.out
    | true =>
      have hm1 := hmc rfl
      clear hmc HFX
      go_wp2
      obtain ⟨wo, hwo⟩ : ∃ wo : World, wo = wr := ⟨_, rfl⟩
      go_loopw [4, 16] (fun cv qv ws => ∃ q : Nat, q ≤ xs.length ∧ qv = .int .i64 q ∧ cv = .bool (movedB (sweeps xs m) (sweepTo xs (sweeps xs m) (q * 4))) ∧ Hid (Tab ws w.heap.size (sweepTo xs (sweeps xs m) (q * 4))) ∧ Below w.heap.size w ws) (fun _ qv _ => xs.length - (intOf qv).toNat)
      case atStart => exact ⟨0, Nat.zero_le _, rfl, (by rw [show (0 : Nat) * 4 = 0 from rfl, sweepTo_zero, movedB_refl]), HT, hB⟩
      case round =>
        clear hwo HT hB
        obtain ⟨q, hq, rfl, rfl, HT, hB⟩ := hrel
        by_cases hql : q < xs.length
        · have g1 : (0 : Int) ≤ (q : Int) := by omega
          have g2 : (q : Int) < (xs.length : Int) := by omega
          generalize hcv : movedB (sweeps xs m) (sweepTo xs (sweeps xs m) (q * 4)) = cb
          have HCV := Lib.hid hcv
          clear hcv
          go_wp2
          obtain ⟨wo, hwo⟩ : ∃ wo : World, wo = wr := ⟨_, rfl⟩
          go_loopw [4, 6] (fun cv rv ws => ∃ r : Nat, ∃ c : Bool, r ≤ 4 ∧ rv = .int .i64 r ∧ cv = .bool c ∧ Hid (movedB (sweeps xs m) (sweepTo xs (sweeps xs m) (q * 4 + r)) = c) ∧ Hid (Tab ws w.heap.size (sweepTo xs (sweeps xs m) (q * 4 + r))) ∧ Below w.heap.size w ws) (fun _ rv _ => 4 - (intOf rv).toNat)
          case atStart => exact ⟨0, cb, Nat.zero_le _, rfl, rfl, HCV, HT, hB⟩
          case round =>
            clear hwo HT hB HCV
            obtain ⟨r, c, hr, rfl, rfl, HCV, HT, hB⟩ := hrel
            by_cases hrl : r < 4
            · have hty : tyAt (q * 4 + r) = ⟨(q : Int), (r : Int)⟩ := tyAt_mk hrl
              have HTY := Lib.hid hty
              clear hty
              have hsl : q * 4 + r < xs.length * 4 := by omega
              have t9 : decide ((r : Int) ≤ 3) = true := by simp; omega
              have hgl := HT.out.lt
              have hbx : Below wr.heap.size wr (wr.alloc (.cells #[.int .i64 (q : Int), .int .i64 (r : Int)] 37)) := (Below.refl _ _).alloc (Nat.le_refl _) _
              have hBx := hB.trans (hbx.mono hB.size)
              have HTx : Hid (Tab (wr.alloc (.cells #[.int .i64 (q : Int), .int .i64 (r : Int)] 37)) w.heap.size (sweepTo xs (sweeps xs m) (q * 4 + r))) := HT.out.same (hbx.block _ hgl)
              have KXx : Hid (Blk (wr.alloc (.cells #[.int .i64 (q : Int), .int .i64 (r : Int)] 37)) wr.heap.size 37 #[.int .i64 (q : Int), .int .i64 (r : Int)]) := Blk.new _ _ _
              go_wp2_with fail
              clear t9
              refine (impl_ctorsOf xs ⟨(q : Int), (r : Int)⟩ _ _ F (ArrDt.below HX.out hBx HF.out) (HF.out.mono hBx.size) HW.out (.inr ⟨q, rfl, hql⟩)).mono ?_
              rintro e w3 ⟨v3, F3, rfl, hb3, ha3, -, hfs3⟩
              have hB3 := hBx.trans (hb3.mono hBx.size)
              have HT3 := Lib.hid (HTx.out.same (hb3.block _ HTx.out.lt))
              have KX3 := Lib.hid (KXx.out.same (hb3.block _ KXx.out.lt))
              rw [← HTY.out] at ha3
              obtain ⟨A3, cap3, rfl, hd1, hd2⟩ := ha3.form
              have HA3 := Lib.hid ha3
              have HU3 := Lib.hid hfs3.under
              have hgx : wr.heap.size < (wr.alloc (.cells #[.int .i64 (q : Int), .int .i64 (r : Int)] 37)).heap.size := by simp
              have HN3 : Hid (w.heap.size ∉ F3) := fun h => by have := (hfs3 _ h).1; omega
              have HS0 : Hid (Tab w3 w.heap.size (St xs m (q * 4 + r) 0)) := HT3
              have HC0 : Hid (movedB (sweeps xs m) (St xs m (q * 4 + r) 0) = c) := HCV
              have hne : w.heap.size ≠ wr.heap.size := by omega
              have hbt := wr.heap.size
              generalize hbte : wr.heap.size = bt at *
              have HNE := Lib.hid hne
              clear hbt hbte ha3 hfs3 hb3 hgx HT3 HTx KXx hbx hBx hB HT hne hgl HCV
              generalize hse : q * 4 + r = s at *
              have HSE := Lib.hid hse
              clear hse
              go_wp2
              obtain ⟨wo, hwo⟩ : ∃ wo : World, wo = w3 := ⟨_, rfl⟩
              go_loopw [4, 30] (fun cv iv ws => ∃ i : Nat, ∃ c : Bool, i ≤ (ctorsL xs (tyAt s)).length ∧ iv = .int .i64 i ∧ cv = .bool c ∧ Hid (movedB (sweeps xs m) (St xs m s i) = c) ∧ Hid (Tab ws w.heap.size (St xs m s i)) ∧ Hid (Blk ws bt 37 #[.int .i64 (q : Int), .int .i64 (r : Int)]) ∧ Hid (Arr ws (NatR ws) (ctorsL xs (tyAt s)) (.slice A3 (ctorsL xs (tyAt s)).length cap3) F3 ∧ Under ws.heap.size F3) ∧ Below w.heap.size w ws) (fun _ iv _ => (ctorsL xs (tyAt s)).length - (intOf iv).toNat)
              case atStart => exact ⟨0, c, Nat.zero_le _, rfl, rfl, HC0, HS0, KX3, ⟨HA3.out, HU3.out⟩, hB3⟩
              case round =>
                clear hwo HS0 KX3 HA3 HU3 hB3 HC0
                obtain ⟨i, c, hi, rfl, rfl, HC, HS, KX, HA, hB⟩ := hrel
                have hgl := HS.out.lt
                have hbl := KX.out.lt
                by_cases hil : i < (ctorsL xs (tyAt s)).length
                · obtain ⟨b7, off7, rfl⟩ := HA.out.1.ptr (by omega)
                  obtain ⟨hb7, c7⟩ := ArrNat.at HA.out.1 HA.out.2 (Below.refl _ _) i hil
                  obtain ⟨d', k, e1, hki, hd', hk'⟩ := mem_ctorsL (xs := xs) (t := tyAt s) (by rw [HTY.out]; exact .inr ⟨q, rfl, hql⟩) (List.getElem_mem hil)
                  rw [HTY.out] at e1
                  obtain rfl : q = d' := Int.ofNat.inj e1
                  rw [hki] at c7
                  have hstep := St_step (n := m) hil
                  have hmo : mostIn xs (St xs m s i) (tyAt s) (ctorsL xs (tyAt s))[i] = mostIn xs (St xs m s i) ⟨(q : Int), (r : Int)⟩ (k : Int) := by rw [hki]; exact congrArg (fun t => mostIn xs (St xs m s i) t (k : Int)) HTY.out
                  rw [hmo] at hstep
                  have HST := Lib.hid hstep
                  clear hstep hmo e1 hki
                  have hsm := St_small HW.out (n := m) (i := i) hsl (by omega)
                  have hsll : s < (St xs m s i).length := by rw [hsm.len]; exact hsl
                  have HSM := Lib.hid hsm
                  clear hsm
                  have y0 : wr.cell? ⟨bt, 0, none⟩ = some (.int .i64 (q : Int)) := (KX.out.cell 0).trans (by simp)
                  have y1 : wr.cell? ⟨bt, 1, none⟩ = some (.int .i64 (r : Int)) := (KX.out.cell 1).trans (by simp)
                  have p1 : (0 : Int) ≤ (i : Int) := by omega
                  have p2 : (i : Int) < ((ctorsL xs (tyAt s)).length : Int) := by omega
                  go_wp2_with fail
                  refine (impl_ofCtor xs HW.out (St xs m s i) HSM.out q r k hql hrl hk' wr _ F w.heap.size (ArrDt.below HX.out hB HF.out) (HF.out.mono hB.size) HS.out).mono ?_
                  rintro e w5 ⟨rfl, hb5⟩
                  have hB5 := hB.trans (hb5.mono hB.size)
                  have HS5 := Lib.hid (HS.out.same (hb5.block _ hgl))
                  have KX5 := Lib.hid (KX.out.same (hb5.block _ hbl))
                  have HA5 : Hid (Arr w5 (NatR w5) (ctorsL xs (tyAt s)) (.slice (some ⟨b7, off7, none⟩) (ctorsL xs (tyAt s)).length cap3) F3 ∧ Under w5.heap.size F3) := ⟨ArrNat.below HA.out.1 hb5 HA.out.2, HA.out.2.mono hb5.size⟩
                  clear c7 y0 y1 hb5
                  have HDI : Hid (depthIn (St xs m s i) ⟨(q : Int), (r : Int)⟩ = (St xs m s i)[s]) := by
                    have e := HSE.out
                    subst e
                    exact depthIn_data hsll
                  have hdp := HSM.out.dep ⟨(q : Int), (r : Int)⟩
                  rw [HDI.out] at hdp
                  have hbet : better (St xs m s i) s (mostIn xs (St xs m s i) ⟨(q : Int), (r : Int)⟩ (k : Int)) = (decide (0 < mostIn xs (St xs m s i) ⟨(q : Int), (r : Int)⟩ (k : Int)) && (decide ((St xs m s i)[s] = 0) || decide (mostIn xs (St xs m s i) ⟨(q : Int), (r : Int)⟩ (k : Int) < (St xs m s i)[s]))) := by
                    unfold better; rw [getD_get hsll]
                  generalize hm : mostIn xs (St xs m s i) ⟨(q : Int), (r : Int)⟩ (k : Int) = n at *
                  have HMM := Lib.hid hm
                  generalize hold : (St xs m s i)[s] = old at *
                  have HOLD := Lib.hid hold
                  clear hm hold
                  have y0 : w5.cell? ⟨bt, 0, none⟩ = some (.int .i64 (q : Int)) := (KX5.out.cell 0).trans (by simp)
                  have y1 : w5.cell? ⟨bt, 1, none⟩ = some (.int .i64 (r : Int)) := (KX5.out.cell 1).trans (by simp)
                  have hb5l := KX5.out.lt
                  have hg5l := HS5.out.lt
                  by_cases h0 : 0 < n
                  · have t0 : decide (n > 0) = true := by simpa using h0
                    go_wp2_with fail
                    refine (impl_of xs.length hn4 (St xs m s i) HSM.out ⟨(q : Int), (r : Int)⟩ (.inr ⟨q, r, rfl, hql, hrl⟩) _ w.heap.size HS5.out).mono ?_
                    rintro e w6 ⟨rfl, hb6⟩
                    rw [HDI.out]
                    have hB6 := hB5.trans (hb6.mono hB5.size)
                    have HS6 := Lib.hid (HS5.out.same (hb6.block _ HS5.out.lt))
                    have KX6 := Lib.hid (KX5.out.same (hb6.block _ KX5.out.lt))
                    have HA6 : Hid (Arr w6 (NatR w6) (ctorsL xs (tyAt s)) (.slice (some ⟨b7, off7, none⟩) (ctorsL xs (tyAt s)).length cap3) F3 ∧ Under w6.heap.size F3) := ⟨ArrNat.below HA5.out.1 hb6 HA5.out.2, HA5.out.2.mono hb6.size⟩
                    clear hb6 y0 y1 hb5l hg5l
                    have y0 : w6.cell? ⟨bt, 0, none⟩ = some (.int .i64 (q : Int)) := (KX6.out.cell 0).trans (by simp)
                    have y1 : w6.cell? ⟨bt, 1, none⟩ = some (.int .i64 (r : Int)) := (KX6.out.cell 1).trans (by simp)
                    have hb5l := KX6.out.lt
                    have hg5l := HS6.out.lt
                    by_cases h1 : old = 0
                    · have t1 : (old == 0) = true := by simp [h1]
                      have hb1 : better (St xs m s i) s n = true := by rw [hbet, decide_eq_true h0, decide_eq_true h1]; rfl
                      clear hbet h1
                      have hsp := HSM.out.pos s
                      have HMV := Lib.hid (movedB_put (St_le hsl) hsll hb1 hsp)
                      have z0 : w6.cell? ⟨w.heap.size, q * 4 + r, none⟩ = some (.int .i64 old) := by rw [HSE.out, ← HOLD.out]; exact HS6.out.cell hsll
                      have zf : w6.frozen? ⟨w.heap.size, q * 4 + r, none⟩ = false := Blk.frozen HS6.out _
                      have HS9 : Hid (Tab (w6.setCell ⟨w.heap.size, q * 4 + r, none⟩ (.int .i64 n)) w.heap.size (St xs m s (i + 1))) := by
                        rw [HSE.out]
                        have h := HS6.out.set hsll n
                        rw [← putIf_yes hb1, ← HST.out] at h
                        exact h
                      have KX9 : Hid (Blk (w6.setCell ⟨w.heap.size, q * 4 + r, none⟩ (.int .i64 n)) bt 37 #[.int .i64 (q : Int), .int .i64 (r : Int)]) := KX6.out.same (Below.heap_setCell _ _ _ _ (fun e => HNE.out e.symm))
                      have HA9 : Hid (Arr (w6.setCell ⟨w.heap.size, q * 4 + r, none⟩ (.int .i64 n)) (NatR (w6.setCell ⟨w.heap.size, q * 4 + r, none⟩ (.int .i64 n))) (ctorsL xs (tyAt s)) (.slice (some ⟨b7, off7, none⟩) (ctorsL xs (tyAt s)).length cap3) F3 ∧ Under (w6.setCell ⟨w.heap.size, q * 4 + r, none⟩ (.int .i64 n)).heap.size F3) := ⟨ArrNat.kept HA6.out.1 (Kept.set (Kept.refl _ _) HN3.out), HA6.out.2.mono (by simp [World.setCell])⟩
                      have hB9 : Below w.heap.size w (w6.setCell ⟨w.heap.size, q * 4 + r, none⟩ (.int .i64 n)) := hB6.setCell (Nat.le_refl _) _
                      have HC9 : Hid (movedB (sweeps xs m) (St xs m s (i + 1)) = true) := by rw [HST.out]; exact HMV.out
                      clear hb1 hsp
                      go_wp2
                      go_roundw
                      case rel => exact ⟨i + 1, true, by omega, by go_num, rfl, HC9, HS9, KX9, HA9, hB9⟩
                      case measure => (simp [intOf] <;> omega)
                    · have t1 : (old == 0) = false := by simpa using h1
                      go_wp2_with fail
                      refine (impl_of xs.length hn4 (St xs m s i) HSM.out ⟨(q : Int), (r : Int)⟩ (.inr ⟨q, r, rfl, hql, hrl⟩) _ w.heap.size HS6.out).mono ?_
                      rintro e w7 ⟨rfl, hb7⟩
                      rw [HDI.out]
                      have hB7 := hB6.trans (hb7.mono hB6.size)
                      have HS7 := Lib.hid (HS6.out.same (hb7.block _ HS6.out.lt))
                      have KX7 := Lib.hid (KX6.out.same (hb7.block _ KX6.out.lt))
                      have HA7 : Hid (Arr w7 (NatR w7) (ctorsL xs (tyAt s)) (.slice (some ⟨b7, off7, none⟩) (ctorsL xs (tyAt s)).length cap3) F3 ∧ Under w7.heap.size F3) := ⟨ArrNat.below HA6.out.1 hb7 HA6.out.2, HA6.out.2.mono hb7.size⟩
                      clear hb7 y0 y1 hb5l hg5l
                      have y0 : w7.cell? ⟨bt, 0, none⟩ = some (.int .i64 (q : Int)) := (KX7.out.cell 0).trans (by simp)
                      have y1 : w7.cell? ⟨bt, 1, none⟩ = some (.int .i64 (r : Int)) := (KX7.out.cell 1).trans (by simp)
                      have hb5l := KX7.out.lt
                      have hg5l := HS7.out.lt
                      by_cases h2 : n < old
                      · have hb1 : better (St xs m s i) s n = true := by rw [hbet, decide_eq_true h0, decide_eq_true h2, Bool.or_true]; rfl
                        clear hbet h1
                        have hsp := HSM.out.pos s
                        have HMV := Lib.hid (movedB_put (St_le hsl) hsll hb1 hsp)
                        have z0 : w7.cell? ⟨w.heap.size, q * 4 + r, none⟩ = some (.int .i64 old) := by rw [HSE.out, ← HOLD.out]; exact HS7.out.cell hsll
                        have zf : w7.frozen? ⟨w.heap.size, q * 4 + r, none⟩ = false := Blk.frozen HS7.out _
                        have HS9 : Hid (Tab (w7.setCell ⟨w.heap.size, q * 4 + r, none⟩ (.int .i64 n)) w.heap.size (St xs m s (i + 1))) := by
                          rw [HSE.out]
                          have h := HS7.out.set hsll n
                          rw [← putIf_yes hb1, ← HST.out] at h
                          exact h
                        have KX9 : Hid (Blk (w7.setCell ⟨w.heap.size, q * 4 + r, none⟩ (.int .i64 n)) bt 37 #[.int .i64 (q : Int), .int .i64 (r : Int)]) := KX7.out.same (Below.heap_setCell _ _ _ _ (fun e => HNE.out e.symm))
                        have HA9 : Hid (Arr (w7.setCell ⟨w.heap.size, q * 4 + r, none⟩ (.int .i64 n)) (NatR (w7.setCell ⟨w.heap.size, q * 4 + r, none⟩ (.int .i64 n))) (ctorsL xs (tyAt s)) (.slice (some ⟨b7, off7, none⟩) (ctorsL xs (tyAt s)).length cap3) F3 ∧ Under (w7.setCell ⟨w.heap.size, q * 4 + r, none⟩ (.int .i64 n)).heap.size F3) := ⟨ArrNat.kept HA7.out.1 (Kept.set (Kept.refl _ _) HN3.out), HA7.out.2.mono (by simp [World.setCell])⟩
                        have hB9 : Below w.heap.size w (w7.setCell ⟨w.heap.size, q * 4 + r, none⟩ (.int .i64 n)) := hB7.setCell (Nat.le_refl _) _
                        have HC9 : Hid (movedB (sweeps xs m) (St xs m s (i + 1)) = true) := by rw [HST.out]; exact HMV.out
                        clear hb1 hsp
                        go_wp2
                        go_roundw
                        case rel => exact ⟨i + 1, true, by omega, by go_num, rfl, HC9, HS9, KX9, HA9, hB9⟩
                        case measure => (simp [intOf] <;> omega)
                      · have hb1 : better (St xs m s i) s n = false := by rw [hbet, decide_eq_false h1, decide_eq_false h2]; simp
                        clear hbet h1
                        have HS9 : Hid (Tab w7 w.heap.size (St xs m s (i + 1))) := by
                          have h := HS7.out
                          rw [← movedB_not hb1, ← HST.out] at h
                          exact h
                        have HC9 : Hid (movedB (sweeps xs m) (St xs m s (i + 1)) = c) := by
                          have h := HC.out
                          rw [← movedB_not hb1, ← HST.out] at h
                          exact h
                        clear hb1
                        go_wp2
                        go_roundw
                        case rel => exact ⟨i + 1, c, by omega, by go_num, rfl, HC9, HS9, KX7, HA7, hB7⟩
                        case measure => (simp [intOf] <;> omega)
                  · have t0 : decide (n > 0) = false := by simp; omega
                    have hb1 : better (St xs m s i) s n = false := by rw [hbet, decide_eq_false h0]; rfl
                    clear hbet
                    have HS9 : Hid (Tab w5 w.heap.size (St xs m s (i + 1))) := by
                      have h := HS5.out
                      rw [← movedB_not hb1, ← HST.out] at h
                      exact h
                    have HC9 : Hid (movedB (sweeps xs m) (St xs m s (i + 1)) = c) := by
                      have h := HC.out
                      rw [← movedB_not hb1, ← HST.out] at h
                      exact h
                    clear hb1
                    go_wp2
                    go_roundw
                    case rel => exact ⟨i + 1, c, by omega, by go_num, rfl, HC9, HS9, KX5, HA5, hB5⟩
                    case measure => (simp [intOf] <;> omega)
                · have HT2 : Hid (Tab wr w.heap.size (sweepTo xs (sweeps xs m) (q * 4 + (r + 1)))) := by
                    have h := HS.out
                    rw [St_all (by omega), ← HSE.out] at h
                    exact h
                  have HC2 : Hid (movedB (sweeps xs m) (sweepTo xs (sweeps xs m) (q * 4 + (r + 1))) = c) := by
                    have h := HC.out
                    rw [St_all (by omega), ← HSE.out] at h
                    exact h
                  go_wp2
                  go_roundw
                  case rel => exact ⟨r + 1, c, by omega, by go_num, rfl, HC2, HT2, hB⟩
                  case measure => (simp [intOf] <;> omega)
            · have t9 : decide ((r : Int) ≤ 3) = false := by simp; omega
              have HT2 : Hid (Tab wr w.heap.size (sweepTo xs (sweeps xs m) ((q + 1) * 4))) := by
                have h := HT.out
                rw [show q * 4 + r = (q + 1) * 4 by omega] at h
                exact h
              have HC2 : Hid (movedB (sweeps xs m) (sweepTo xs (sweeps xs m) ((q + 1) * 4)) = c) := by
                have h := HCV.out
                rw [show q * 4 + r = (q + 1) * 4 by omega] at h
                exact h
              go_wp2
              go_roundw
              case rel => exact ⟨q + 1, by omega, by go_num, (by rw [HC2.out]), HT2, hB⟩
              case measure => (simp [intOf] <;> omega)
        · have HT2 : Hid (Tab wr w.heap.size (sweeps xs (m + 1))) := by
            have h := HT.out
            rw [show q * 4 = xs.length * 4 by omega] at h
            exact h
          generalize hcv : movedB (sweeps xs m) (sweepTo xs (sweeps xs m) (q * 4)) = cb
          have hfix : cb = false → sweep xs (sweeps xs (m + 1)) = sweeps xs (m + 1) := fun h => by
            rw [h, movedB_iff, show q * 4 = xs.length * 4 by omega] at hcv
            have e : sweeps xs (m + 1) = sweeps xs m := hcv
            rw [e]; exact hcv
          have hmv : cb = true → m + 1 ≤ xs.length * 4 + 1 := fun h => by
            have := moved_le HW.out (m := m) (fun e => by
              have e2 : movedB (sweeps xs m) (sweepTo xs (sweeps xs m) (q * 4)) = false := movedB_iff.2 (by rw [show q * 4 = xs.length * 4 by omega]; exact e)
              rw [hcv, h] at e2
              cases e2)
            omega
          have HFIX := Lib.hid hfix
          have HMV := Lib.hid hmv
          clear hfix hmv hcv
          go_wp2
          go_roundg (gk - 1)
          case rel => exact ⟨m + 1, cb, by omega, rfl, HFIX, HMV.out, HT2, hB⟩
          case measure => omega
end Go.Proofs.Ytbffkgfhcmigaaa

namespace Go.Proofs.Ytbffkgfhcmigaaa
open Go.RowKit

theorem depthL_no {xs : List Dt} {t : Ty} (h : typeValidB xs t = false) : depthL xs t = 0 := if_neg (by simp [h])
theorem depthL_yes {xs : List Dt} {t : Ty} (h : typeValidB xs t = true) : depthL xs t = depthIn (tableL xs) t := if_pos h
def posB (n : Int) : Bool := decide (0 < n)
theorem tableL_small {xs : List Dt} (hw : WorldOK xs) : Small xs.length (tableL xs) := table_small hw (by have := hw.len; omega)
theorem ret_pair {k : IntKind} {a b : Int} {c d : Bool} (h : a = b) (h2 : c = d) : Ending.returned (.tuple #[.int k a, .bool c]) = .returned (.tuple #[.int k b, .bool d]) := by rw [h, h2]
set_option maxRecDepth 100000 in
set_option maxHeartbeats 1600000 in
theorem spec_LeastDepth (xs : List Dt) (t : Ty) (w : World) (v : Value) (F : List Nat) (hx : Arr w (DtR w) xs v F) (hf : Under w.heap.size F) :
    Calls Try.prog 83 #[v, .agg #[.int .i64 t.d, .int .i64 t.i]] w fun e w' => e = .returned (.tuple #[.int .i64 (depthL xs t), .bool (posB (depthL xs t))]) ∧ Below w.heap.size w w' := by
  obtain ⟨A, cap, rfl, hc1, hc2⟩ := hx.form
  have HX := Lib.hid hx
  have HF := Lib.hid hf
  clear hx hf
  go_enter Try.func83, Try.ntmps83
  go_wp2_with fail
  obtain ⟨W2, hW2⟩ : ∃ W2, W2 = w.alloc (.cells #[.int .i64 t.d, .int .i64 t.i] 37) := ⟨_, rfl⟩
  have hB2 : Below w.heap.size w W2 := by rw [hW2]; exact (Below.refl _ _).alloc (Nat.le_refl _) _
  have k1 : Blk W2 w.heap.size 37 #[.int .i64 t.d, .int .i64 t.i] := by rw [hW2]; exact Blk.new _ _ _
  rw [← hW2]
  clear hW2
  refine (spec_TypeValid xs t W2 _ F (ArrDt.below HX.out hB2 HF.out) (HF.out.mono hB2.size)).mono ?_
  rintro e w3 ⟨rfl, hb3⟩
  have hB3 := hB2.trans (hb3.mono hB2.size)
  have k2 := k1.same (hb3.block _ k1.lt)
  have x0 : w3.cell? ⟨w.heap.size, 0, none⟩ = some (.int .i64 t.d) := (k2.cell 0).trans (by simp)
  have x1 : w3.cell? ⟨w.heap.size, 1, none⟩ = some (.int .i64 t.i) := (k2.cell 1).trans (by simp)
  have hlt := k2.lt
  clear k1 k2 hb3
  cases h1 : typeValidB xs t with
  | false =>
    have hf := Lib.hid (depthL_no h1)
    clear h1
    go_wp2
    go_ret2
    exact ⟨ret_pair hf.out.symm (by rw [hf.out]; rfl), hB3⟩
  | true =>
    have hf := Lib.hid (depthL_yes h1)
    obtain ⟨hw, hto⟩ := typeValid_split h1
    have HW := Lib.hid hw
    have HT := Lib.hid (typeOkB_tyIn hto)
    clear h1 hw hto
    go_wp2_with fail
    have hkeep : ∀ U U' : World, (U.cell? ⟨w.heap.size, 0, none⟩ = some (.int .i64 t.d) ∧ U.cell? ⟨w.heap.size, 1, none⟩ = some (.int .i64 t.i)) → Below U.heap.size U U' → w3.heap.size ≤ U.heap.size → (U'.cell? ⟨w.heap.size, 0, none⟩ = some (.int .i64 t.d) ∧ U'.cell? ⟨w.heap.size, 1, none⟩ = some (.int .i64 t.i)) := fun U U' h hUU hU => ⟨(hUU.cell (Nat.lt_of_lt_of_le (hlt) hU)).trans h.1, (hUU.cell (Nat.lt_of_lt_of_le (hlt) hU)).trans h.2⟩
    have HKeep := Lib.hid hkeep
    clear hkeep
    go_region_held3 (fun w' => w'.cell? ⟨w.heap.size, 0, none⟩ = some (.int .i64 t.d) ∧ w'.cell? ⟨w.heap.size, 1, none⟩ = some (.int .i64 t.i)) (first | assumption | (exact ⟨x0, x1⟩) | (exact HKeep.out w3.drew w4 ⟨x0, x1⟩ hb4 (Nat.le_refl _)) | (exact HKeep.out w4 w5 (by assumption) hb5 hlew4)) (first | (go_at_call 85; ((with_reducible refine (spec_l1Table xs HW.out _ _ F (ArrDt.below HX.out hB3.drew HF.out) (HF.out.mono hB3.drew.size)).mono ?_); rintro e w4 ⟨v4, F4, rfl, hb4, ha4, -, hfs4⟩); have hlew4 : w3.heap.size ≤ w4.heap.size := hb4.size) | (go_at_call 131; ((with_reducible refine (spec_l1Depth xs.length HW.out.len (tableL xs) (tableL_small HW.out) t HT.out _ _ F4 ha4 hfs4.under).mono ?_); rintro e w5 ⟨rfl, hb5⟩)))
    have hB5 := (hB3.drew.trans (hb4.mono hB3.drew.size)).trans (hb5.mono (hB3.drew.trans (hb4.mono hB3.drew.size)).size)
    generalize hdd : depthIn (tableL xs) t = n at *
    have HDD := Lib.hid hdd
    clear hdd
    go_wp2
    go_ret2
    exact ⟨ret_pair hf.out.symm (by rw [hf.out]; rfl), hB5⟩


set_option maxRecDepth 100000 in
set_option maxHeartbeats 1600000 in
theorem impl_LeastDepth (xs : List Dt) (t : Ty) (w : World) (v : Value) (F : List Nat) (hx : Arr w (DtR w) xs v F) (hf : Under w.heap.size F) :
    Calls Try.prog 64 #[v, .agg #[.int .i64 t.d, .int .i64 t.i]] w fun e w' => e = .returned (.tuple #[.int .i64 (depthL xs t), .bool (posB (depthL xs t))]) ∧ Below w.heap.size w w' := by
  obtain ⟨A, cap, rfl, hc1, hc2⟩ := hx.form
  have HX := Lib.hid hx
  have HF := Lib.hid hf
  clear hx hf
  go_enter Try.func64, Try.ntmps64
  go_wp2_with fail
  obtain ⟨W2, hW2⟩ : ∃ W2, W2 = w.alloc (.cells #[.int .i64 t.d, .int .i64 t.i] 37) := ⟨_, rfl⟩
  have hB2 : Below w.heap.size w W2 := by rw [hW2]; exact (Below.refl _ _).alloc (Nat.le_refl _) _
  have k1 : Blk W2 w.heap.size 37 #[.int .i64 t.d, .int .i64 t.i] := by rw [hW2]; exact Blk.new _ _ _
  rw [← hW2]
  clear hW2
  refine (impl_TypeValid xs t W2 _ F (ArrDt.below HX.out hB2 HF.out) (HF.out.mono hB2.size)).mono ?_
  rintro e w3 ⟨rfl, hb3⟩
  have hB3 := hB2.trans (hb3.mono hB2.size)
  have k2 := k1.same (hb3.block _ k1.lt)
  have x0 : w3.cell? ⟨w.heap.size, 0, none⟩ = some (.int .i64 t.d) := (k2.cell 0).trans (by simp)
  have x1 : w3.cell? ⟨w.heap.size, 1, none⟩ = some (.int .i64 t.i) := (k2.cell 1).trans (by simp)
  have hlt := k2.lt
  clear k1 k2 hb3
  cases h1 : typeValidB xs t with
  | false =>
    have hf := Lib.hid (depthL_no h1)
    clear h1
    go_wp2
    go_ret2
    exact ⟨ret_pair hf.out.symm (by rw [hf.out]; rfl), hB3⟩
  | true =>
    have hf := Lib.hid (depthL_yes h1)
    obtain ⟨hw, hto⟩ := typeValid_split h1
    have HW := Lib.hid hw
    have HT := Lib.hid (typeOkB_tyIn hto)
    clear h1 hw hto
    go_wp2_with fail
    have hkeep : ∀ U U' : World, (U.cell? ⟨w.heap.size, 0, none⟩ = some (.int .i64 t.d) ∧ U.cell? ⟨w.heap.size, 1, none⟩ = some (.int .i64 t.i)) → Below U.heap.size U U' → w3.heap.size ≤ U.heap.size → (U'.cell? ⟨w.heap.size, 0, none⟩ = some (.int .i64 t.d) ∧ U'.cell? ⟨w.heap.size, 1, none⟩ = some (.int .i64 t.i)) := fun U U' h hUU hU => ⟨(hUU.cell (Nat.lt_of_lt_of_le (hlt) hU)).trans h.1, (hUU.cell (Nat.lt_of_lt_of_le (hlt) hU)).trans h.2⟩
    have HKeep := Lib.hid hkeep
    clear hkeep
    go_region_held3 (fun w' => w'.cell? ⟨w.heap.size, 0, none⟩ = some (.int .i64 t.d) ∧ w'.cell? ⟨w.heap.size, 1, none⟩ = some (.int .i64 t.i)) (first | assumption | (exact ⟨x0, x1⟩) | (exact HKeep.out w3.drew w4 ⟨x0, x1⟩ hb4 (Nat.le_refl _)) | (exact HKeep.out w4 w5 (by assumption) hb5 hlew4)) (first | (go_at_call 89; ((with_reducible refine (impl_depthsOf xs HW.out _ _ F (ArrDt.below HX.out hB3.drew HF.out) (HF.out.mono hB3.drew.size)).mono ?_); rintro e w4 ⟨g4, rfl, hge4, ha4, hb4⟩); have hlew4 : w3.heap.size ≤ w4.heap.size := hb4.size) | (go_at_call 122; ((with_reducible refine (impl_of xs.length HW.out.len (tableL xs) (tableL_small HW.out) t HT.out _ g4 ha4).mono ?_); rintro e w5 ⟨rfl, hb5⟩)))
    have hB5 := (hB3.drew.trans (hb4.mono hB3.drew.size)).trans (hb5.mono (hB3.drew.trans (hb4.mono hB3.drew.size)).size)
    generalize hdd : depthIn (tableL xs) t = n at *
    have HDD := Lib.hid hdd
    clear hdd
    go_wp2
    go_ret2
    exact ⟨ret_pair hf.out.symm (by rw [hf.out]; rfl), hB5⟩

end Go.Proofs.Ytbffkgfhcmigaaa

namespace Go.Proofs.Ytbffkgfhcmigaaa
open Go.RowKit

theorem ArrV.drew' {w : World} {vs : List V} {x : Value} {F : List Nat} (h : Arr w (VR w) vs x F) : Arr w.drew (VR w.drew) vs x F := ArrV.mono (w := w) h (fun _ _ => rfl)
theorem ArrV.at {w0 w : World} {b off n cap : Nat} {F : List Nat} {xs : List V} (h : Arr w0 (VR w0) xs (.slice (some ⟨b, off, none⟩) n cap) F) (hF : Under w0.heap.size F) (hB : Below w0.heap.size w0 w) (i : Nat) (hi : i < xs.length) :
    ∃ A1 cap1 G, b < w.heap.size ∧ w.cell? ⟨b, off + i * 3, none⟩ = some (.int .i64 xs[i].c) ∧ w.cell? ⟨b, off + i * 3 + 1, none⟩ = some (.int .i64 xs[i].n) ∧ w.cell? ⟨b, off + i * 3 + 2, none⟩ = some (.slice A1 xs[i].ks.length cap1) ∧
      Hid (VR w0 xs[i] [.int .i64 xs[i].c, .int .i64 xs[i].n, .slice A1 xs[i].ks.length cap1] G) ∧ Hid (Under w0.heap.size G) ∧ (∀ b ∈ G, b ∈ F) ∧ xs[i].ks.length ≤ cap1 ∧ cap1 ≤ 9223372036854775807 := by
  obtain ⟨b', off', cs, G, e, hb, hcs, hv, hG⟩ := h.get VR_len hi
  cases e
  have hbl := hF _ hb
  have hc := hcs.same (hB.block _ hbl)
  obtain ⟨kv, rfl, ha⟩ := (VR_iff _ _ _).1 hv
  obtain ⟨A1, cap1, rfl, h1, h2⟩ := ha.form
  exact ⟨A1, cap1, G, Nat.lt_of_lt_of_le hbl hB.size, hc 0 _ rfl, hc 1 _ rfl, hc 2 _ rfl, hv, hF.sub hG, hG, h1, h2⟩
/-- the nodes of a value -/
def nodes (v : V) : Nat := 1 + v.size
theorem nodes_ks (v : V) : nodes v = 1 + V.sizes v.ks := by obtain ⟨c, n, ks⟩ := v; rfl
theorem sizes_step {l : List V} {i : Nat} (h : i < l.length) : V.sizes (l.take (i + 1)) = V.sizes (l.take i) + nodes l[i] := by
  rw [V.sizes_eq, V.sizes_eq, V.subs_take_succ l i h, List.length_take, List.length_take]
  unfold nodes
  omega
theorem sizes_take_le (l : List V) (i : Nat) : V.sizes (l.take i) ≤ V.sizes l := by
  rw [V.sizes_eq, V.sizes_eq, List.length_take]
  have := V.subs_take_le l i
  omega
def zipAll (f : Ty → V → Bool) : List Ty → List V → Bool
  | a :: ls, k :: ks => f a k && zipAll f ls ks
  | _, _ => true
theorem zipAll_step {f : Ty → V → Bool} {ls : List Ty} {ks : List V} {i : Nat} (h1 : i < ls.length) (h2 : i < ks.length) : zipAll f (ls.drop i) (ks.drop i) = (f ls[i] ks[i] && zipAll f (ls.drop (i + 1)) (ks.drop (i + 1))) := by
  rw [List.drop_eq_getElem_cons h1, List.drop_eq_getElem_cons h2, zipAll]
theorem zipAll_end {f : Ty → V → Bool} {ls : List Ty} {ks : List V} {i : Nat} (h1 : ls.length ≤ i) : zipAll f (ls.drop i) (ks.drop i) = true := by
  rw [List.drop_of_length_le h1]
  cases ks.drop i <;> rfl
def isNum (v : V) : Bool := (v.c == -1) && (withinB v.n 0 9 && decide (v.ks.length = 0))
/-- v is a value of type t, of depth d at most -/
def fitsV (xs : List Dt) : Nat → Ty → V → Bool
  | 0, _, _ => false
  | d + 1, t, v => if t.d = -1 then isNum v else (v.n == 0) && (hasB (ctorsL xs t) v.c && (decide (v.ks.length = (argsOf xs t v.c).length) && zipAll (fitsV xs d) (argsOf xs t v.c) v.ks))
theorem fitsV_int {xs : List Dt} {d : Nat} {t : Ty} {v : V} (h : t.d = -1) : fitsV xs (d + 1) t v = isNum v := by rw [fitsV, if_pos h]
theorem fitsV_data {xs : List Dt} {d : Nat} {t : Ty} {v : V} (h : ¬ t.d = -1) : fitsV xs (d + 1) t v = ((v.n == 0) && (hasB (ctorsL xs t) v.c && (decide (v.ks.length = (argsOf xs t v.c).length) && zipAll (fitsV xs d) (argsOf xs t v.c) v.ks))) := by rw [fitsV, if_neg h]
def valueOkB (xs : List Dt) (t : Ty) (v : V) : Bool := fitsV xs 10 t v && decide (nodes v ≤ 60)
def valueValidB (xs : List Dt) (t : Ty) (v : V) : Bool := typeValidB xs t && valueOkB xs t v

/-- contract of l2Fits at one value -/
def FitsS (v : V) : Prop := ∀ (xs : List Dt) (_ : WorldOK xs) (d : Nat) (_ : d ≤ 10) (t : Ty) (_ : TyIn xs.length t) (w : World) (x : Value) (F : List Nat) (cs : List Value) (G : List Nat), Arr w (DtR w) xs x F → Under w.heap.size F → VR w v cs G → Under w.heap.size G →
  Calls Try.prog 135 #[x, .agg #[.int .i64 t.d, .int .i64 t.i], .agg cs.toArray, .int .i64 (d : Int)] w fun e w' => e = .returned (.bool (fitsV xs d t v)) ∧ Below w.heap.size w w'
set_option maxRecDepth 100000 in
set_option maxHeartbeats 1600000 in
theorem l2Fits_of (v : V) (ih : ∀ k ∈ v.ks, FitsS k) : FitsS v := by
  intro xs hw d hd t ht w x F cs G hx hf hv hg
  obtain ⟨kv, rfl, ha⟩ := (VR_iff _ _ _).1 hv
  obtain ⟨A, cap, rfl, hc1, hc2⟩ := hx.form
  obtain ⟨A4, cap4, rfl, hc3, hc4⟩ := ha.form
  have HW := Lib.hid hw
  have IH := Lib.hid ih
  have HX := Lib.hid hx
  have HF := Lib.hid hf
  have HA := Lib.hid ha
  have HG := Lib.hid hg
  clear hx hf ha hg
  clear hw ih hv
  cases d with
  | zero =>
    go_enter Try.func135, Try.ntmps135
    go_wp2
    go_ret
    exact ⟨ret_bool rfl, ((Below.refl _ _).alloc (Nat.le_refl _) _).alloc (by simp) _⟩
  | succ d =>
  have hd1 : decide (((d + 1 : Nat) : Int) < 1) = false := by simp; omega
  have hde : ((d + 1 : Nat) : Int) = (d : Int) + 1 := by omega
  rw [hde] at hd1 ⊢
  clear hde
  rcases ht with ht | ⟨q, r, rfl, hql, hrl⟩
  · have t0 : (t.d == -1) = true := by simp [ht]
    have hB0 : Below w.heap.size w ((w.alloc (.cells #[.int .i64 t.d, .int .i64 t.i] 37)).alloc (.cells #[.int .i64 v.c, .int .i64 v.n, .slice A4 v.ks.length cap4] 41)) := ((Below.refl _ _).alloc (Nat.le_refl _) _).alloc (by simp) _
    have hfi := fitsV_int (xs := xs) (d := d) (v := v) ht
    unfold isNum at hfi
    cases q0 : (v.c == -1) with
    | false =>
      have hf : Hid (fitsV xs (d + 1) t v = false) := by rw [hfi, q0]; rfl
      clear hfi
      go_enter Try.func135, Try.ntmps135
      go_wp2
      go_ret
      exact ⟨ret_bool hf.out.symm, ((Below.refl _ _).alloc (Nat.le_refl _) _).alloc (by simp) _⟩
    | true =>
      cases q1 : withinB v.n 0 9 with
      | false =>
        have hf : Hid (fitsV xs (d + 1) t v = false) := by rw [hfi, q0, q1]; rfl
        clear hfi
        by_cases h0 : 0 ≤ v.n
        · have t1 : decide (v.n ≥ 0) = true := by simpa using h0
          have t2 : decide (v.n ≤ 9) = false := by
            have : ¬ (0 ≤ v.n ∧ v.n ≤ 9) := fun h => by rw [(withinB_iff _ _ _).2 h] at q1; cases q1
            simp; omega
          clear q1
          go_enter Try.func135, Try.ntmps135
          go_wp2
          go_ret
          exact ⟨ret_bool hf.out.symm, ((Below.refl _ _).alloc (Nat.le_refl _) _).alloc (by simp) _⟩
        · have t1 : decide (v.n ≥ 0) = false := by simpa using h0
          clear q1
          go_enter Try.func135, Try.ntmps135
          go_wp2
          go_ret
          exact ⟨ret_bool hf.out.symm, ((Below.refl _ _).alloc (Nat.le_refl _) _).alloc (by simp) _⟩
      | true =>
        by_cases q2 : v.ks.length = 0
        · have hf : Hid (fitsV xs (d + 1) t v = true) := by rw [hfi, q0, q1, decide_eq_true q2]; rfl
          have t3 : ((v.ks.length : Int) == 0) = true := by simp [q2]
          clear hfi
          have hq := (withinB_iff _ _ _).1 q1
          have t1 : decide (v.n ≥ 0) = true := by simp; omega
          have t2 : decide (v.n ≤ 9) = true := by simp; omega
          clear q1
          go_enter Try.func135, Try.ntmps135
          go_wp2
          go_ret
          exact ⟨ret_bool hf.out.symm, ((Below.refl _ _).alloc (Nat.le_refl _) _).alloc (by simp) _⟩
        · have hf : Hid (fitsV xs (d + 1) t v = false) := by rw [hfi, q0, q1, decide_eq_false q2]; rfl
          have t3 : ((v.ks.length : Int) == 0) = false := by simp; simpa using q2
          clear hfi
          have hq := (withinB_iff _ _ _).1 q1
          have t1 : decide (v.n ≥ 0) = true := by simp; omega
          have t2 : decide (v.n ≤ 9) = true := by simp; omega
          clear q1
          go_enter Try.func135, Try.ntmps135
          go_wp2
          go_ret
          exact ⟨ret_bool hf.out.symm, ((Below.refl _ _).alloc (Nat.le_refl _) _).alloc (by simp) _⟩
  · have t0 : ((q : Int) == -1) = false := by rw [beq_eq_false_iff_ne]; omega
    have hfd := fitsV_data (xs := xs) (d := d) (v := v) (t := ⟨(q : Int), (r : Int)⟩) (by show ¬ ((q : Int) = -1); omega)
    have HFD := Lib.hid hfd
    clear hfd
    go_enter Try.func135, Try.ntmps135
    go_wp2_with fail
    obtain ⟨W2, hW2⟩ : ∃ W2, W2 = ((w.alloc (.cells #[.int .i64 (q : Int), .int .i64 (r : Int)] 37)).alloc (.cells #[.int .i64 v.c, .int .i64 v.n, .slice A4 v.ks.length cap4] 41)) := ⟨_, rfl⟩
    have hB0 : Below w.heap.size w W2 := by rw [hW2]; exact ((Below.refl _ _).alloc (Nat.le_refl _) _).alloc (by simp) _
    have KT : Hid (Blk W2 w.heap.size 37 #[.int .i64 (q : Int), .int .i64 (r : Int)]) := by rw [hW2]; exact (Blk.new w _ _).same (Below.heap_alloc _ _ _ (by simp))
    have KV : Hid (Blk W2 (w.heap.size + 1) 41 #[.int .i64 v.c, .int .i64 v.n, .slice A4 v.ks.length cap4]) := by rw [hW2]; have h := Blk.new (w.alloc (.cells #[.int .i64 (q : Int), .int .i64 (r : Int)] 37)) 41 #[.int .i64 v.c, .int .i64 v.n, .slice A4 v.ks.length cap4]; rw [World.size_alloc] at h; exact h
    rw [← hW2]
    clear hW2
    have y0 : W2.cell? ⟨w.heap.size, 0, none⟩ = some (.int .i64 (q : Int)) := (KT.out.cell 0).trans (by simp)
    have y1 : W2.cell? ⟨w.heap.size, 1, none⟩ = some (.int .i64 (r : Int)) := (KT.out.cell 1).trans (by simp)
    have z0 : W2.cell? ⟨w.heap.size + 1, 0, none⟩ = some (.int .i64 v.c) := (KV.out.cell 0).trans (by simp)
    have z1 : W2.cell? ⟨w.heap.size + 1, 1, none⟩ = some (.int .i64 v.n) := (KV.out.cell 1).trans (by simp)
    have z2 : W2.cell? ⟨w.heap.size + 1, 2, none⟩ = some (.slice A4 v.ks.length cap4) := (KV.out.cell 2).trans (by simp)
    have klt := KT.out.lt
    have klt2 := KV.out.lt
    have HBQ := Lib.hid (fun n => below_drewN hB0 n)
    cases q0 : (v.n == 0) with
    | false =>
      have t1 : (v.n != 0) = true := by rw [bne, q0]; rfl
      have hf : Hid (fitsV xs (d + 1) ⟨(q : Int), (r : Int)⟩ v = false) := by rw [HFD.out, q0]; rfl
      clear q0
      go_quiet (fail)
      go_wp2
      go_ret
      exact ⟨ret_bool hf.out.symm, HBQ.out _⟩
    | true =>
      have t1 : (v.n != 0) = false := by rw [bne, q0]; rfl
      have h1 : fitsV xs (d + 1) ⟨(q : Int), (r : Int)⟩ v = (hasB (ctorsL xs ⟨(q : Int), (r : Int)⟩) v.c && (decide (v.ks.length = (argsOf xs ⟨(q : Int), (r : Int)⟩ v.c).length) && zipAll (fitsV xs d) (argsOf xs ⟨(q : Int), (r : Int)⟩ v.c) v.ks)) := by rw [HFD.out, q0, Bool.true_and]
      have H1 := Lib.hid h1
      have HIW : Hid (InWorld xs.length ⟨(q : Int), (r : Int)⟩) := .inr ⟨q, rfl, hql⟩
      clear h1 q0
      have hkeep : ∀ U U' : World, (U.cell? ⟨w.heap.size, 0, none⟩ = some (.int .i64 (q : Int)) ∧ U.cell? ⟨w.heap.size, 1, none⟩ = some (.int .i64 (r : Int)) ∧ U.cell? ⟨w.heap.size + 1, 0, none⟩ = some (.int .i64 v.c) ∧ U.cell? ⟨w.heap.size + 1, 1, none⟩ = some (.int .i64 v.n) ∧ U.cell? ⟨w.heap.size + 1, 2, none⟩ = some (.slice A4 v.ks.length cap4)) → Below U.heap.size U U' → W2.heap.size ≤ U.heap.size → (U'.cell? ⟨w.heap.size, 0, none⟩ = some (.int .i64 (q : Int)) ∧ U'.cell? ⟨w.heap.size, 1, none⟩ = some (.int .i64 (r : Int)) ∧ U'.cell? ⟨w.heap.size + 1, 0, none⟩ = some (.int .i64 v.c) ∧ U'.cell? ⟨w.heap.size + 1, 1, none⟩ = some (.int .i64 v.n) ∧ U'.cell? ⟨w.heap.size + 1, 2, none⟩ = some (.slice A4 v.ks.length cap4)) := fun U U' h hUU hU => ⟨(hUU.cell (Nat.lt_of_lt_of_le (klt) hU)).trans h.1, (hUU.cell (Nat.lt_of_lt_of_le (klt) hU)).trans h.2.1, (hUU.cell (Nat.lt_of_lt_of_le (klt2) hU)).trans h.2.2.1, (hUU.cell (Nat.lt_of_lt_of_le (klt2) hU)).trans h.2.2.2.1, (hUU.cell (Nat.lt_of_lt_of_le (klt2) hU)).trans h.2.2.2.2⟩
      have HKeep := Lib.hid hkeep
      clear hkeep
      go_region_held3 (fun w' => w'.cell? ⟨w.heap.size, 0, none⟩ = some (.int .i64 (q : Int)) ∧ w'.cell? ⟨w.heap.size, 1, none⟩ = some (.int .i64 (r : Int)) ∧ w'.cell? ⟨w.heap.size + 1, 0, none⟩ = some (.int .i64 v.c) ∧ w'.cell? ⟨w.heap.size + 1, 1, none⟩ = some (.int .i64 v.n) ∧ w'.cell? ⟨w.heap.size + 1, 2, none⟩ = some (.slice A4 v.ks.length cap4)) (first | assumption | (exact ⟨y0, y1, z0, z1, z2⟩) | (exact HKeep.out W2.drew w4 ⟨y0, y1, z0, z1, z2⟩ hb4 (Nat.le_refl _)) | (exact HKeep.out w4 w5 (by assumption) hb5 hlew4)) (first | (go_at_call 132; ((with_reducible refine (spec_l1Ctors xs ⟨(q : Int), (r : Int)⟩ _ _ F (ArrDt.below HX.out hB0.drew HF.out) (HF.out.mono hB0.drew.size) HW.out HIW.out).mono ?_); rintro e w4 ⟨v4, F4, rfl, hb4, ha4, -, hfs4⟩); have hlew4 : W2.heap.size ≤ w4.heap.size := hb4.size) | (go_at_call 170; ((with_reducible refine (spec_l1Has (ctorsL xs ⟨(q : Int), (r : Int)⟩) v.c _ _ F4 ha4 hfs4.under).mono ?_); rintro e w5 ⟨rfl, hb5⟩)))
      have hBa := hB0.drew.trans (hb4.mono hB0.drew.size)
      have hB5 := hBa.trans (hb5.mono hBa.size)
      have KT5 := Lib.hid ((KT.out.same (hb4.block _ KT.out.lt)).same (hb5.block _ (KT.out.same (hb4.block _ KT.out.lt)).lt))
      have KV5 := Lib.hid ((KV.out.same (hb4.block _ KV.out.lt)).same (hb5.block _ (KV.out.same (hb4.block _ KV.out.lt)).lt))
      clear HKeep KT KV y0 y1 z0 z1 z2 klt klt2 hBa hb4 hb5 ha4 hfs4 HBQ hB0 t1
      cases e1 : hasB (ctorsL xs ⟨(q : Int), (r : Int)⟩) v.c with
      | false =>
        have hf : Hid (fitsV xs (d + 1) ⟨(q : Int), (r : Int)⟩ v = false) := by rw [H1.out, e1]; rfl
        clear e1
        go_wp2
        go_ret
        exact ⟨ret_bool hf.out.symm, hB5⟩
      | true =>
        obtain ⟨q', k, e2, hvc, hq', hkl⟩ := mem_ctorsL (xs := xs) (t := ⟨(q : Int), (r : Int)⟩) (.inr ⟨q, rfl, hql⟩) ((hasB_iff _ _).1 e1)
        obtain rfl : q = q' := Int.ofNat.inj e2
        have h2 := H1.out
        rw [e1, Bool.true_and, hvc, argsOf_get hql hkl] at h2
        have H2 := Lib.hid h2
        clear h2 e1 e2
        have HAI := Lib.hid (fun a ha => argTy_in (HW.out.ctor hql hkl) (i := (r : Int)) (by omega) (by omega) (a := a) ha)
        have HLA := Lib.hid (HW.out.ctor hql hkl).args
        have y0 : w5.cell? ⟨w.heap.size, 0, none⟩ = some (.int .i64 (q : Int)) := (KT5.out.cell 0).trans (by simp)
        have y1 : w5.cell? ⟨w.heap.size, 1, none⟩ = some (.int .i64 (r : Int)) := (KT5.out.cell 1).trans (by simp)
        have z0 : w5.cell? ⟨w.heap.size + 1, 0, none⟩ = some (.int .i64 v.c) := (KV5.out.cell 0).trans (by simp)
        have klt := KT5.out.lt
        have klt2 := KV5.out.lt
        have HVC := Lib.hid hvc
        clear hvc
        go_wp2_with fail
        rw [HVC.out]
        refine (spec_l1Args xs q k (r : Int) hql hkl w5 _ F (ArrDt.below HX.out hB5 HF.out) (HF.out.mono hB5.size) HLA.out).mono ?_
        rintro e w6 ⟨v6, F6, rfl, hb6, ha6, -, hfs6⟩
        have hB6 := hB5.trans (hb6.mono hB5.size)
        have KV6 := Lib.hid (KV5.out.same (hb6.block _ KV5.out.lt))
        generalize hass : argsL xs[q].ctors[k] (r : Int) = ls at *
        clear hass
        obtain ⟨A6, cap6, rfl, hd3, hd4⟩ := ha6.form
        have HA6 := Lib.hid ha6
        have HU6 := Lib.hid hfs6.under
        clear ha6 hfs6 hb6 KT5 KV5 y0 y1 z0 klt klt2 hB5
        have z2 : w6.cell? ⟨w.heap.size + 1, 2, none⟩ = some (.slice A4 v.ks.length cap4) := (KV6.out.cell 2).trans (by simp)
        have klt2 := KV6.out.lt
        by_cases hln : v.ks.length = ls.length
        · have t2 : ((v.ks.length : Int) != (ls.length : Int)) = false := by simp [hln]
          have h3 : fitsV xs (d + 1) ⟨(q : Int), (r : Int)⟩ v = zipAll (fitsV xs d) ls v.ks := by rw [H2.out, decide_eq_true hln, Bool.true_and]
          have H3 := Lib.hid h3
          have HLN := Lib.hid hln
          clear h3 hln
          go_wp2
          clear z2 klt2 t2
          go_loopw [10] (fun iv wr => ∃ i : Nat, i ≤ ls.length ∧ iv = .int .i64 i ∧ Hid (fitsV xs (d + 1) ⟨(q : Int), (r : Int)⟩ v = zipAll (fitsV xs d) (ls.drop i) (v.ks.drop i)) ∧ Hid (Blk wr (w.heap.size + 1) 41 #[.int .i64 v.c, .int .i64 v.n, .slice A4 v.ks.length cap4]) ∧ Below w.heap.size w wr ∧ Hid (Below w6.heap.size w6 wr)) (fun iv _ => ls.length - (intOf iv).toNat)
          case atStart => exact ⟨0, Nat.zero_le _, rfl, H3, KV6, hB6, Below.refl _ _⟩
          case round =>
            clear hB6
            obtain ⟨i, hi, rfl, HR, KV, hB, HB6⟩ := hrel
            by_cases hil : i < ls.length
            · have hik : i < v.ks.length := by rw [HLN.out]; exact hil
              obtain ⟨b6, off6, rfl⟩ := HA6.out.ptr (by omega)
              obtain ⟨hb6, a0, a1⟩ := ArrTy.at HA6.out HU6.out HB6.out i hil
              obtain ⟨b4, off4, rfl⟩ := HA.out.ptr (by omega)
              obtain ⟨A7, cap7, G7, hb7, k0, k1, k2, HV7, HG7, -, -, -⟩ := ArrV.at HA.out HG.out hB i hik
              have z2 : wr.cell? ⟨w.heap.size + 1, 2, none⟩ = some (.slice (some ⟨b4, off4, none⟩) v.ks.length cap4) := (KV.out.cell 2).trans (by simp)
              have klt2 := KV.out.lt
              have g1 : (0 : Int) ≤ (i : Int) := by omega
              have g2 : (i : Int) < (ls.length : Int) := by omega
              have g3 : (i : Int) < (v.ks.length : Int) := by omega
              have hstep := HR.out
              rw [zipAll_step hil hik] at hstep
              have HST := Lib.hid hstep
              clear hstep
              have hwr : IntKind.i64.wrap (d : Int) = (d : Int) := IntWalk.i64_in _ (by omega)
              have HCALL := Lib.hid (IH.out v.ks[i] (List.getElem_mem hik) xs HW.out d (by omega) ls[i] (HAI.out _ (List.getElem_mem hil)) wr.drew _ F _ G7 (ArrDt.below HX.out hB.drew HF.out) (HF.out.mono hB.drew.size) (HV7.out.below hB.drew HG7.out) (HG7.out.mono hB.drew.size))
              go_wp2_with fail
              have hkeep : ∀ U U' : World, (U.cell? ⟨b6, off6 + i * 2, none⟩ = some (.int .i64 ls[i].d) ∧ U.cell? ⟨b6, off6 + i * 2 + 1, none⟩ = some (.int .i64 ls[i].i) ∧ U.cell? ⟨w.heap.size + 1, 2, none⟩ = some (.slice (some ⟨b4, off4, none⟩) v.ks.length cap4) ∧ U.cell? ⟨b4, off4 + i * 3, none⟩ = some (.int .i64 v.ks[i].c) ∧ U.cell? ⟨b4, off4 + i * 3 + 1, none⟩ = some (.int .i64 v.ks[i].n) ∧ U.cell? ⟨b4, off4 + i * 3 + 2, none⟩ = some (.slice A7 v.ks[i].ks.length cap7)) → Below U.heap.size U U' → wr.heap.size ≤ U.heap.size → (U'.cell? ⟨b6, off6 + i * 2, none⟩ = some (.int .i64 ls[i].d) ∧ U'.cell? ⟨b6, off6 + i * 2 + 1, none⟩ = some (.int .i64 ls[i].i) ∧ U'.cell? ⟨w.heap.size + 1, 2, none⟩ = some (.slice (some ⟨b4, off4, none⟩) v.ks.length cap4) ∧ U'.cell? ⟨b4, off4 + i * 3, none⟩ = some (.int .i64 v.ks[i].c) ∧ U'.cell? ⟨b4, off4 + i * 3 + 1, none⟩ = some (.int .i64 v.ks[i].n) ∧ U'.cell? ⟨b4, off4 + i * 3 + 2, none⟩ = some (.slice A7 v.ks[i].ks.length cap7)) := fun U U' h hUU hU => ⟨(hUU.cell (Nat.lt_of_lt_of_le (hb6) hU)).trans h.1, (hUU.cell (Nat.lt_of_lt_of_le (hb6) hU)).trans h.2.1, (hUU.cell (Nat.lt_of_lt_of_le (klt2) hU)).trans h.2.2.1, (hUU.cell (Nat.lt_of_lt_of_le (hb7) hU)).trans h.2.2.2.1, (hUU.cell (Nat.lt_of_lt_of_le (hb7) hU)).trans h.2.2.2.2.1, (hUU.cell (Nat.lt_of_lt_of_le (hb7) hU)).trans h.2.2.2.2.2⟩
              have HKeep := Lib.hid hkeep
              clear hkeep
              go_region_held3 (fun w' => w'.cell? ⟨b6, off6 + i * 2, none⟩ = some (.int .i64 ls[i].d) ∧ w'.cell? ⟨b6, off6 + i * 2 + 1, none⟩ = some (.int .i64 ls[i].i) ∧ w'.cell? ⟨w.heap.size + 1, 2, none⟩ = some (.slice (some ⟨b4, off4, none⟩) v.ks.length cap4) ∧ w'.cell? ⟨b4, off4 + i * 3, none⟩ = some (.int .i64 v.ks[i].c) ∧ w'.cell? ⟨b4, off4 + i * 3 + 1, none⟩ = some (.int .i64 v.ks[i].n) ∧ w'.cell? ⟨b4, off4 + i * 3 + 2, none⟩ = some (.slice A7 v.ks[i].ks.length cap7)) (first | assumption | (exact ⟨a0, a1, z2, k0, k1, k2⟩) | (exact HKeep.out wr.drew w' ⟨a0, a1, z2, k0, k1, k2⟩ hB' (Nat.le_refl _))) (first | (go_at_call 135; ((with_reducible refine HCALL.out.mono ?_); rintro e w' ⟨rfl, hB'⟩)))
              have hB3 := hB.drew.trans (hB'.mono hB.size)
              have HB3 := Lib.hid (HB6.out.drew.trans (hB'.mono HB6.out.size))
              have KV3 := Lib.hid (KV.out.same (hB'.block _ KV.out.lt))
              clear HKeep hwr
              cases e3 : fitsV xs d ls[i] v.ks[i] with
              | false =>
                have hf : Hid (fitsV xs (d + 1) ⟨(q : Int), (r : Int)⟩ v = false) := by rw [HST.out, e3]; rfl
                clear e3
                go_wp2
                go_ret
                exact ⟨ret_bool hf.out.symm, hB3⟩
              | true =>
                have hR2 : Hid (fitsV xs (d + 1) ⟨(q : Int), (r : Int)⟩ v = zipAll (fitsV xs d) (ls.drop (i + 1)) (v.ks.drop (i + 1))) := by rw [HST.out, e3, Bool.true_and]; rfl
                clear e3
                go_wp2
                go_roundw
                case rel => exact ⟨i + 1, by omega, by go_num, hR2, KV3, hB3, HB3⟩
                case measure => (simp [intOf] <;> omega)
            · have hf : Hid (fitsV xs (d + 1) ⟨(q : Int), (r : Int)⟩ v = true) := by rw [HR.out]; exact zipAll_end (by omega)
              go_wp2
              go_ret
              exact ⟨ret_bool hf.out.symm, hB⟩
        · have t2 : ((v.ks.length : Int) != (ls.length : Int)) = true := by rw [bne_iff_ne]; omega
          have hf : Hid (fitsV xs (d + 1) ⟨(q : Int), (r : Int)⟩ v = false) := by rw [H2.out, decide_eq_false hln]; rfl
          clear hln
          go_wp2
          go_ret
          exact ⟨ret_bool hf.out.symm, hB6⟩
theorem V.indv {p : V → Prop} (h : ∀ v : V, (∀ k ∈ v.ks, p k) → p v) : ∀ v, p v := V.ind fun c n ks ih => h ⟨c, n, ks⟩ ih
theorem spec_l2Fits : ∀ v, FitsS v := V.indv l2Fits_of
end Go.Proofs.Ytbffkgfhcmigaaa

namespace Go.Proofs.Ytbffkgfhcmigaaa
open Go.RowKit

def isLeast (xs : List Dt) (t : Ty) (k : Int) : Bool := mostIn xs (tableL xs) t k == depthIn (tableL xs) t
def leastV (xs : List Dt) : Nat → Ty → V
  | 0, _ => ⟨0, 0, []⟩
  | n + 1, t => if t.d = -1 then ⟨-1, 0, []⟩ else match (ctorsL xs t).find? (isLeast xs t) with
    | none => ⟨0, 0, []⟩
    | some k => ⟨k, 0, (argsOf xs t k).map (leastV xs n)⟩
theorem leastV_int {xs : List Dt} {n : Nat} {t : Ty} (h : t.d = -1) : leastV xs (n + 1) t = ⟨-1, 0, []⟩ := by rw [leastV, if_pos h]
theorem leastV_none {xs : List Dt} {n : Nat} {t : Ty} (h : ¬ t.d = -1) (h2 : (ctorsL xs t).find? (isLeast xs t) = none) : leastV xs (n + 1) t = ⟨0, 0, []⟩ := by rw [leastV, if_neg h, h2]
theorem leastV_some {xs : List Dt} {n : Nat} {t : Ty} {k : Int} (h : ¬ t.d = -1) (h2 : (ctorsL xs t).find? (isLeast xs t) = some k) : leastV xs (n + 1) t = ⟨k, 0, (argsOf xs t k).map (leastV xs n)⟩ := by rw [leastV, if_neg h, h2]
theorem find_step {p : Int → Bool} {l : List Int} {i : Nat} (h : i < l.length) : (l.drop i).find? p = if p l[i] = true then some l[i] else (l.drop (i + 1)).find? p := by
  rw [List.drop_eq_getElem_cons h, List.find?_cons]
  cases p l[i] <;> simp
theorem find_end {p : Int → Bool} {l : List Int} {i : Nat} (h : l.length ≤ i) : (l.drop i).find? p = none := by
  rw [List.drop_of_length_le h]; rfl
/-- the arguments of a least constructor are less deep -/
theorem least_args {xs : List Dt} (hw : WorldOK xs) {t : Ty} (ht : TyIn xs.length t) {k : Int} (hk : k ∈ ctorsL xs t) (hl : isLeast xs t k = true) (h0 : depthIn (tableL xs) t ≠ 0) {a : Ty} (ha : a ∈ argsOf xs t k) :
    TyIn xs.length a ∧ depthIn (tableL xs) a ≠ 0 ∧ depthIn (tableL xs) a + 1 ≤ depthIn (tableL xs) t := by
  have e : mostIn xs (tableL xs) t k = depthIn (tableL xs) t := by unfold isLeast at hl; exact eq_of_beq hl
  have hs := sound_tableL hw
  have hne := mostGo_ne (tab := tableL xs) (ls := argsOf xs t k) (m := 0) (by show mostIn xs (tableL xs) t k ≠ 0; rw [e]; exact h0)
  have hp := (mostGo_pos hs.dpos (Int.le_refl 0) hne).2 a ha
  have h2 : mostGo (tableL xs) 0 (argsOf xs t k) = mostIn xs (tableL xs) t k := rfl
  exact ⟨argsOf_in hw ht hk ha, hne a ha, by omega⟩
theorem argsOf_len3 {xs : List Dt} (hw : WorldOK xs) {t : Ty} (ht : TyIn xs.length t) {k : Int} (hk : k ∈ ctorsL xs t) : (argsOf xs t k).length ≤ 3 := by
  rcases ht with h | ⟨d, i, rfl, h1, h2⟩
  · rw [ctorsL_int h] at hk; cases hk
  · obtain ⟨d', m, e1, rfl, hd, hm⟩ := mem_ctorsL (.inr ⟨d, rfl, h1⟩) hk
    obtain rfl : d = d' := Int.ofNat.inj e1
    rw [argsOf_get hd hm, argsL_len]
    exact (hw.ctor hd hm).args
theorem sizes_map_le {α : Type} (f : α → V) (b : Nat) : ∀ (l : List α), (∀ a ∈ l, nodes (f a) ≤ b) → V.sizes (l.map f) ≤ l.length * b
  | [], _ => by simp [V.sizes]
  | a :: l, h => by
    have h1 := h a (by simp)
    have h2 := sizes_map_le f b l fun x hx => h x (by simp [hx])
    simp only [List.map_cons, V.sizes, List.length_cons]
    unfold nodes at h1
    rw [Nat.add_mul]
    omega
theorem leastV_nodes {xs : List Dt} (hw : WorldOK xs) : ∀ (n : Nat) (t : Ty), TyIn xs.length t → nodes (leastV xs n t) ≤ 4 ^ n
  | 0, t, _ => by simp [leastV, nodes, V.size, V.sizes]
  | n + 1, t, ht => by
    have hp : 1 ≤ 4 ^ n := Nat.one_le_pow _ _ (by omega)
    have h4 : 4 ^ (n + 1) = 4 ^ n * 4 := Nat.pow_succ ..
    by_cases hd : t.d = -1
    · rw [leastV_int hd]; simp [nodes, V.size, V.sizes]; omega
    · cases hf : (ctorsL xs t).find? (isLeast xs t) with
      | none => rw [leastV_none hd hf]; simp [nodes, V.size, V.sizes]; omega
      | some k =>
        rw [leastV_some hd hf]
        have hk := List.mem_of_find?_eq_some hf
        have h1 := sizes_map_le (leastV xs n) (4 ^ n) (argsOf xs t k) fun a ha => leastV_nodes hw n a (argsOf_in hw ht hk ha)
        have h3 := argsOf_len3 hw ht hk
        have h5 : (argsOf xs t k).length * 4 ^ n ≤ 3 * 4 ^ n := Nat.mul_le_mul_right _ h3
        rw [nodes_ks]
        simp only
        omega
theorem leastV_small {xs : List Dt} (hw : WorldOK xs) {n : Nat} (hn : n ≤ 10) {t : Ty} (ht : TyIn xs.length t) : (leastV xs n t).size ≤ 1048576 := by
  have h1 := leastV_nodes hw n t ht
  have h2 : 4 ^ n ≤ 4 ^ 10 := Nat.pow_le_pow_right (by omega) hn
  have h3 : (4 : Nat) ^ 10 = 1048576 := by decide
  unfold nodes at h1
  omega
/-- the kids made so far -/
def leastTo (xs : List Dt) (n : Nat) (as' : List Ty) (i : Nat) : List V := (as'.take i).map (leastV xs n)
theorem leastTo_succ (xs : List Dt) (n : Nat) (l : List Ty) (i : Nat) (h : i < l.length) : leastTo xs n l (i + 1) = leastTo xs n l i ++ [leastV xs n l[i]] := by
  unfold leastTo
  rw [take_snoc' l i h, List.map_append]; rfl
theorem leastTo_all (xs : List Dt) (n : Nat) (l : List Ty) {i : Nat} (h : l.length ≤ i) : leastTo xs n l i = l.map (leastV xs n) := by unfold leastTo; rw [List.take_of_length_le h]
theorem leastTo_len (xs : List Dt) (n : Nat) (l : List Ty) (i : Nat) : (leastTo xs n l i).length ≤ i := by unfold leastTo; rw [List.length_map, List.length_take]; omega
/-- what LeastValue gives -/
def leastFine (xs : List Dt) (t : Ty) : Bool := typeValidB xs t && (withinB (depthIn (tableL xs) t) 1 10 && valueOkB xs t (leastV xs 10 t))
def leastR (xs : List Dt) (t : Ty) : V := if leastFine xs t = true then leastV xs 10 t else ⟨0, 0, []⟩
theorem leastR_size (xs : List Dt) (t : Ty) : (leastR xs t).size ≤ 60 := by
  unfold leastR
  split
  · rename_i h
    unfold leastFine valueOkB nodes at h
    simp only [Bool.and_eq_true, decide_eq_true_eq] at h
    omega
  · simp [V.size, V.sizes]
end Go.Proofs.Ytbffkgfhcmigaaa
