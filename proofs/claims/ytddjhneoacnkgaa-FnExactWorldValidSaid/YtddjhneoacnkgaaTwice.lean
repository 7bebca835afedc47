/-
  l1Twice of the reference: a name stands before. Conditions: the place lies in the world.
-/
import Derived.Test.YtddjhneoacnkgaaGet
import Derived.Test.YtddjhneoacnkgaaWorldOk
import Derived.Deep.QuietTactic
import Derived.BigQuiet
namespace Go.Proofs.Ytddjhneoacnkgaa
open Go.RowKit

/-- a name stands before: s (of a data type) among those of pre, or c (of a constructor) among those of pre's and cs' constructors -/
def ctorNames (pre : List Dt) : List ByteArray := pre.flatMap fun x => x.ctors.map Kt.name
def twiceB (pre : List Dt) (cs : List Kt) (s c : ByteArray) : Bool := nameIn (pre.map Dt.name) s || nameIn (ctorNames pre ++ cs.map Kt.name) c
theorem nameIn_snoc (l : List ByteArray) (x s : ByteArray) : nameIn (l ++ [x]) s = (nameIn l s || (x.toList == s.toList)) := by simp [nameIn]
theorem nameIn_append (l m : List ByteArray) (s : ByteArray) : nameIn (l ++ m) s = (nameIn l s || nameIn m s) := by simp [nameIn]
theorem nameIn_mem {l : List ByteArray} {x s : ByteArray} (h : x ∈ l) (e : (x.toList == s.toList) = true) : nameIn l s = true := by
  unfold nameIn; rw [List.any_eq_true]; exact ⟨x, h, e⟩
theorem ctorNames_snoc (l : List Dt) (x : Dt) : ctorNames (l ++ [x]) = ctorNames l ++ x.ctors.map Kt.name := by simp [ctorNames]
def MissD (xs : List Dt) (s c : ByteArray) (i : Nat) : Prop := nameIn ((xs.take i).map Dt.name) s = false ∧ nameIn (ctorNames (xs.take i)) c = false
theorem MissD.snoc {xs : List Dt} {s c : ByteArray} {i : Nat} (h : MissD xs s c i) (hi : i < xs.length) (h1 : (xs[i].name.toList == s.toList) = false) (h2 : nameIn (xs[i].ctors.map Kt.name) c = false) : MissD xs s c (i + 1) := by
  unfold MissD
  rw [take_snoc' xs i hi, List.map_append, List.map_cons, List.map_nil, nameIn_snoc, ctorNames_snoc, nameIn_append, h.1, h.2, h1, h2]
  exact ⟨rfl, rfl⟩
theorem twice_hitD {xs : List Dt} {cs : List Kt} {s c : ByteArray} {i d : Nat} (hi : i < xs.length) (hd : i < d) (h1 : (xs[i].name.toList == s.toList) = true) : twiceB (xs.take d) cs s c = true := by
  unfold twiceB
  rw [nameIn_mem (List.mem_map_of_mem (List.mem_take_iff_getElem.2 ⟨i, by omega, rfl⟩)) h1]; rfl
theorem twice_hitC {xs : List Dt} {cs : List Kt} {s c : ByteArray} {i j d : Nat} (hi : i < xs.length) (hd : i < d) (hj : j < xs[i].ctors.length) (h1 : (xs[i].ctors[j].name.toList == c.toList) = true) : twiceB (xs.take d) cs s c = true := by
  unfold twiceB
  rw [nameIn_append, nameIn_mem (l := ctorNames (xs.take d)) (x := xs[i].ctors[j].name) (List.mem_flatMap.2 ⟨xs[i], List.mem_take_iff_getElem.2 ⟨i, by omega, rfl⟩, List.mem_map_of_mem (List.getElem_mem hj)⟩) h1, Bool.true_or, Bool.or_true]
theorem twice_hitK {pre : List Dt} {ks : List Kt} {s c : ByteArray} {j k : Nat} (hj : j < ks.length) (hk : j < k) (h1 : (ks[j].name.toList == c.toList) = true) : twiceB pre (ks.take k) s c = true := by
  unfold twiceB
  rw [nameIn_append, nameIn_mem (l := (ks.take k).map Kt.name) (List.mem_map_of_mem (List.mem_take_iff_getElem.2 ⟨j, by omega, rfl⟩)) h1, Bool.or_true, Bool.or_true]
theorem twice_miss {xs : List Dt} {cs : List Kt} {s c : ByteArray} {d : Nat} (h : MissD xs s c d) (h1 : nameIn (cs.map Kt.name) c = false) : twiceB (xs.take d) cs s c = false := by
  unfold twiceB
  rw [nameIn_append, h.1, h.2, h1]; rfl
def MissK (ks : List Kt) (c : ByteArray) (j : Nat) : Prop := nameIn ((ks.take j).map Kt.name) c = false
theorem MissK.snoc {ks : List Kt} {c : ByteArray} {j : Nat} (h : MissK ks c j) (hj : j < ks.length) (h1 : (ks[j].name.toList == c.toList) = false) : MissK ks c (j + 1) := by
  unfold MissK
  rw [take_snoc' ks j hj, List.map_append, List.map_cons, List.map_nil, nameIn_snoc, h1, Bool.or_false]
  exact h
theorem MissK.all {ks : List Kt} {c : ByteArray} {j : Nat} (h : MissK ks c j) (hj : ks.length ≤ j) : nameIn (ks.map Kt.name) c = false := by
  unfold MissK at h
  rwa [List.take_of_length_le hj] at h
set_option maxRecDepth 100000 in
set_option maxHeartbeats 1600000 in
theorem spec_l1Twice (xs : List Dt) (d k : Nat) (hd : d < xs.length) (hk : k < xs[d].ctors.length) (w : World) (v : Value) (F : List Nat) (hx : Arr w (DtR w) xs v F) (hf : Under w.heap.size F) :
    Calls Try.prog 52 #[v, .int .i64 d, .int .i64 k] w fun e w' => e = .returned (.bool (twiceB (xs.take d) (xs[d].ctors.take k) xs[d].name xs[d].ctors[k].name)) ∧ Below w.heap.size w w' := by
  obtain ⟨A, cap, rfl, hc1, hc2⟩ := hx.form
  obtain ⟨b, off, rfl⟩ := hx.ptr (by omega)
  have HX := Lib.hid hx
  have HF := Lib.hid hf
  clear hx hf
  go_enter Try.func52, Try.ntmps52
  go_wp2
  go_loopw [7] (fun iv wr => ∃ i : Nat, i ≤ d + 1 ∧ iv = .int .i64 i ∧ Hid ((i ≤ d → MissD xs xs[d].name xs[d].ctors[k].name i) ∧ (i = d + 1 → twiceB (xs.take d) (xs[d].ctors.take k) xs[d].name xs[d].ctors[k].name = false)) ∧ Below w.heap.size w wr) (fun iv _ => d + 1 - (intOf iv).toNat)
  case atStart => exact ⟨0, Nat.zero_le _, rfl, ⟨fun _ => ⟨rfl, rfl⟩, fun h => by omega⟩, Below.refl _ _⟩
  case round =>
    obtain ⟨i, hi, rfl, HR, hB⟩ := hrel
    have HBQ := Lib.hid (fun n => below_drewN hB n)
    by_cases hid : i < d
    · have hil : i < xs.length := by omega
      have HM := Lib.hid (HR.out.1 (by omega))
      obtain ⟨Ai, capi, Gi, hbi, i0, i1, HI, HGi, -, -, -⟩ := ArrDt.at HX.out HF.out hB i hil
      obtain ⟨Ad, capd, Gd, hbd, d0, d1, HD, HGd, -, -, -⟩ := ArrDt.at HX.out HF.out hB d hd
      have g5 : (0 : Int) ≤ (i : Int) := by omega
      have g6 : (i : Int) < (xs.length : Int) := by omega
      have g7 : (0 : Int) ≤ (d : Int) := by omega
      have g8 : (d : Int) < (xs.length : Int) := by omega
      have hdec : decide (i < d) = true := by simpa using hid
      cases e0 : (xs[i].name.toList == xs[d].name.toList) with
      | true =>
        have hf := Lib.hid (twice_hitD (cs := xs[d].ctors.take k) (c := xs[d].ctors[k].name) hil hid e0)
        go_wp2_with fail
        go_quiet (fail)
        go_wp2
        go_ret
        exact ⟨ret_bool hf.out.symm, HBQ.out _⟩
      | false =>
        go_wp2_with fail
        go_quiet (fail)
        have HE0 := Lib.hid e0
        clear e0 i0 i1 d0 d1 HI HGi HD HGd hbi hbd hB
        go_wp2
        obtain ⟨wo, hwo⟩ : ∃ wo : World, wo = wr := ⟨_, rfl⟩
        go_loopw [8] (fun jv ws => ∃ j : Nat, j ≤ xs[i].ctors.length ∧ jv = .int .i64 j ∧ Hid (MissK xs[i].ctors xs[d].ctors[k].name j) ∧ Below w.heap.size w ws) (fun jv _ => xs[i].ctors.length - (intOf jv).toNat)
        case atStart => exact ⟨0, Nat.zero_le _, rfl, (show MissK xs[i].ctors xs[d].ctors[k].name 0 from rfl), HBQ.out _⟩
        case round =>
          clear hwo
          obtain ⟨j, hj, rfl, HK, hB2⟩ := hrel
          have HBq2 := Lib.hid (fun n => below_drewN hB2 n)
          obtain ⟨Ai, capi, Gi, hbi, i0, i1, HI, HGi, -, hci1, hci2⟩ := ArrDt.at HX.out HF.out hB2 i hil
          clear i0
          by_cases hlt : j < xs[i].ctors.length
          · have hjl : j < xs[i].ctors.length := by omega
            obtain ⟨bi, offi, rfl⟩ := HI.out.ptr (by omega)
            obtain ⟨-, -, -, hbj, j0, -, -, -, -, -, -, -⟩ := ArrKt.at HI.out HGi.out hB2 j hjl
            obtain ⟨Ad, capd, Gd, hbd, d0, d1, HD, HGd, -, hcd1, hcd2⟩ := ArrDt.at HX.out HF.out hB2 d hd
            clear d0
            obtain ⟨bd, offd, rfl⟩ := HD.out.ptr (by omega)
            obtain ⟨-, -, -, hbk, k0, -, -, -, -, -, -, -⟩ := ArrKt.at HD.out HGd.out hB2 k hk
            have g1 : (0 : Int) ≤ (j : Int) := by omega
            have g2 : (j : Int) < (xs[i].ctors.length : Int) := by omega
            have g3 : (0 : Int) ≤ (k : Int) := by omega
            have g4 : (k : Int) < (xs[d].ctors.length : Int) := by omega
            have g5 : (0 : Int) ≤ (i : Int) := by omega
            have g6 : (i : Int) < (xs.length : Int) := by omega
            have g7 : (0 : Int) ≤ (d : Int) := by omega
            have g8 : (d : Int) < (xs.length : Int) := by omega
            have g9 : decide (k < xs[d].ctors.length) = true := by simpa using hk
            cases e1 : (xs[i].ctors[j].name.toList == xs[d].ctors[k].name.toList) with
            | true =>
              have hf := Lib.hid (twice_hitC hil hid hjl e1 : twiceB (xs.take d) (xs[d].ctors.take k) xs[d].name xs[d].ctors[k].name = true)
              go_wp2_with fail
              go_quiet (fail)
              go_wp2
              go_ret
              exact ⟨ret_bool hf.out.symm, HBq2.out _⟩
            | false =>
              have HK2 := Lib.hid (HK.out.snoc hjl e1)
              go_wp2_with fail
              go_quiet (fail)
              go_wp2
              go_roundw
              case rel => exact ⟨j + 1, by omega, by go_num, HK2, HBq2.out _⟩
              case measure => (simp [intOf] <;> omega)
          · go_wp2_with fail
            have hm2 : MissD xs xs[d].name xs[d].ctors[k].name (i + 1) := HM.out.snoc hil HE0.out (HK.out.all (by omega))
            go_roundw
            case rel => exact ⟨i + 1, by omega, by go_num, ⟨fun _ => hm2, fun h => by omega⟩, hB2⟩
            case measure => (simp [intOf] <;> omega)

    · by_cases he : i = d
      · subst he
        have hil : i < xs.length := by omega
        have HM := Lib.hid (HR.out.1 (by omega))
        have hdec : decide (i < i) = false := by simp
        go_wp2_with fail
        go_quiet (fail)
        clear hB
        go_wp2
        obtain ⟨wo, hwo⟩ : ∃ wo : World, wo = wr := ⟨_, rfl⟩
        go_loopw [8] (fun jv ws => ∃ j : Nat, j ≤ k ∧ jv = .int .i64 j ∧ Hid (MissK xs[i].ctors xs[i].ctors[k].name j) ∧ Below w.heap.size w ws) (fun jv _ => k - (intOf jv).toNat)
        case atStart => exact ⟨0, Nat.zero_le _, rfl, (show MissK xs[i].ctors xs[i].ctors[k].name 0 from rfl), HBQ.out _⟩
        case round =>
          clear hwo
          obtain ⟨j, hj, rfl, HK, hB2⟩ := hrel
          have HBq2 := Lib.hid (fun n => below_drewN hB2 n)
          obtain ⟨Ai, capi, Gi, hbi, i0, i1, HI, HGi, -, hci1, hci2⟩ := ArrDt.at HX.out HF.out hB2 i hil
          clear i0
          by_cases hlt : j < k
          · have hjl : j < xs[i].ctors.length := by omega
            obtain ⟨bi, offi, rfl⟩ := HI.out.ptr (by omega)
            obtain ⟨-, -, -, hbj, j0, -, -, -, -, -, -, -⟩ := ArrKt.at HI.out HGi.out hB2 j hjl
            obtain ⟨-, -, -, hbk, k0, -, -, -, -, -, -, -⟩ := ArrKt.at HI.out HGi.out hB2 k hk
            have g1 : (0 : Int) ≤ (j : Int) := by omega
            have g2 : (j : Int) < (xs[i].ctors.length : Int) := by omega
            have g3 : (0 : Int) ≤ (k : Int) := by omega
            have g4 : (k : Int) < (xs[i].ctors.length : Int) := by omega
            have g5 : (0 : Int) ≤ (i : Int) := by omega
            have g6 : (i : Int) < (xs.length : Int) := by omega
            have g7 : (0 : Int) ≤ (i : Int) := by omega
            have g8 : (i : Int) < (xs.length : Int) := by omega
            have g9 : decide (k < xs[i].ctors.length) = true := by simpa using hk
            cases e1 : (xs[i].ctors[j].name.toList == xs[i].ctors[k].name.toList) with
            | true =>
              have hf := Lib.hid (twice_hitK hjl hlt e1 : twiceB (xs.take i) (xs[i].ctors.take k) xs[i].name xs[i].ctors[k].name = true)
              go_wp2_with fail
              go_quiet (fail)
              go_wp2
              go_ret
              exact ⟨ret_bool hf.out.symm, HBq2.out _⟩
            | false =>
              have HK2 := Lib.hid (HK.out.snoc hjl e1)
              go_wp2_with fail
              go_quiet (fail)
              go_wp2
              go_roundw
              case rel => exact ⟨j + 1, by omega, by go_num, HK2, HBq2.out _⟩
              case measure => (simp [intOf] <;> omega)
          · go_wp2_with fail
            have hm2 : twiceB (xs.take i) (xs[i].ctors.take k) xs[i].name xs[i].ctors[k].name = false := twice_miss HM.out (by have h := HK.out; have e : j = k := (by omega); unfold MissK at h; rw [e] at h; exact h)
            go_roundw
            case rel => exact ⟨i + 1, by omega, by go_num, ⟨fun h => by omega, fun _ => hm2⟩, hB2⟩
            case measure => (simp [intOf] <;> omega)

      · have hf := Lib.hid (HR.out.2 (by omega))
        go_wp2
        go_ret
        exact ⟨ret_bool hf.out.symm, hB⟩
end Go.Proofs.Ytddjhneoacnkgaa
